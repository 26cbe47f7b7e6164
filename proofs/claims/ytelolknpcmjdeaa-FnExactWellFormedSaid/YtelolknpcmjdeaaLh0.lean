/- The words of this part of the program (h). -/
import Derived.Test.YtelolknpcmjdeaaLg0
namespace Go.Proofs.Ytelolknpcmjdeaa
open Go.RowKit
set_option linter.unusedSimpArgs false
set_option linter.unusedVariables false
set_option maxRecDepth 100000
structure As where
  isd : Int
  core : Bool
  key : Int
  deriving DecidableEq
structure Lk where
  a : Int
  ai : Int
  b : Int
  bi : Int
  kind : Int
  deriving DecidableEq
structure Tp where
  ases : List As
  links : List Lk
  deriving DecidableEq
abbrev asRow (x : As) : List D := [.int .i64 x.isd, .bool x.core, .int .i64 x.key]
abbrev lkRow (x : Lk) : List D := [.int .i64 x.a, .int .i64 x.ai, .int .i64 x.b, .int .i64 x.bi, .int .i64 x.kind]
abbrev tpRow (t : Tp) : List D := [.sl (t.ases.map asRow), .sl (t.links.map lkRow)]
def i64R (n : Int) : Prop := -9223372036854775808 ≤ n ∧ n < 9223372036854775808
theorem isIntW {x : D} (h : IsC (.int .i64) x) : ∃ a, x = .int .i64 a ∧ i64R a := by
  simp only [IsC] at h
  obtain ⟨a, rfl, w⟩ := h
  exact ⟨a, rfl, i64_wf w⟩
theorem isBool {x : D} (h : IsC .bool x) : ∃ a, x = .bool a := by
  simp only [IsC] at h
  exact h
def hopW (h : Hp) : Prop := i64R h.asn ∧ i64R h.ing ∧ i64R h.eg ∧ i64R h.ex ∧ i64R h.mac
def asW (x : As) : Prop := i64R x.isd ∧ i64R x.key
def lkW (x : Lk) : Prop := i64R x.a ∧ i64R x.ai ∧ i64R x.b ∧ i64R x.bi ∧ i64R x.kind
def segW (s : Sg) : Prop := i64R s.ts ∧ i64R s.beta ∧ ∀ h ∈ s.hops, hopW h
def tpW (t : Tp) : Prop := (∀ x ∈ t.ases, asW x) ∧ (∀ x ∈ t.links, lkW x)
theorem isHopW {x : List D} (h : IsL [.int .i64, .int .i64, .int .i64, .int .i64, .int .i64] x) : ∃ p : Hp, x = hopRow p ∧ hopW p := by
  simp only [IsL] at h
  obtain ⟨_, _, rfl, h1, _, _, rfl, h2, _, _, rfl, h3, _, _, rfl, h4, _, _, rfl, h5, rfl⟩ := h
  obtain ⟨a, rfl, w1⟩ := isIntW h1
  obtain ⟨b, rfl, w2⟩ := isIntW h2
  obtain ⟨c, rfl, w3⟩ := isIntW h3
  obtain ⟨d, rfl, w4⟩ := isIntW h4
  obtain ⟨e, rfl, w5⟩ := isIntW h5
  exact ⟨⟨a, b, c, d, e⟩, rfl, w1, w2, w3, w4, w5⟩
theorem isLkW {x : List D} (h : IsL [.int .i64, .int .i64, .int .i64, .int .i64, .int .i64] x) : ∃ p : Lk, x = lkRow p ∧ lkW p := by
  simp only [IsL] at h
  obtain ⟨_, _, rfl, h1, _, _, rfl, h2, _, _, rfl, h3, _, _, rfl, h4, _, _, rfl, h5, rfl⟩ := h
  obtain ⟨a, rfl, w1⟩ := isIntW h1
  obtain ⟨b, rfl, w2⟩ := isIntW h2
  obtain ⟨c, rfl, w3⟩ := isIntW h3
  obtain ⟨d, rfl, w4⟩ := isIntW h4
  obtain ⟨e, rfl, w5⟩ := isIntW h5
  exact ⟨⟨a, b, c, d, e⟩, rfl, w1, w2, w3, w4, w5⟩
theorem isAsW {x : List D} (h : IsL [.int .i64, .bool, .int .i64] x) : ∃ p : As, x = asRow p ∧ asW p := by
  simp only [IsL] at h
  obtain ⟨_, _, rfl, h1, _, _, rfl, h2, _, _, rfl, h3, rfl⟩ := h
  obtain ⟨a, rfl, w1⟩ := isIntW h1
  obtain ⟨b, rfl⟩ := isBool h2
  obtain ⟨c, rfl, w3⟩ := isIntW h3
  exact ⟨⟨a, b, c⟩, rfl, w1, w3⟩
theorem isRowsW {α : Type} {f : α → List D} {W : α → Prop} {es : List CT} (hf : ∀ x, IsL es x → ∃ a, x = f a ∧ W a) {x : D} (h : IsC (.slice es) x) : ∃ l : List α, x = .sl (l.map f) ∧ l.length ≤ maxLen ∧ ∀ a ∈ l, W a := by
  simp only [IsC] at h
  obtain ⟨rows, rfl, hl, hr⟩ := h
  have : ∃ l : List α, rows = l.map f ∧ ∀ a ∈ l, W a := by
    clear hl
    induction rows with
    | nil => exact ⟨[], rfl, by simp⟩
    | cons r rs ih =>
      obtain ⟨l, hl, hw⟩ := ih fun r hr' => hr r (by simp [hr'])
      obtain ⟨a, ha, wa⟩ := hf r (hr r (by simp))
      exact ⟨a :: l, by simp [ha, hl], by simpa using ⟨wa, hw⟩⟩
  obtain ⟨l, rfl, hw⟩ := this
  exact ⟨l, rfl, by simpa using hl, hw⟩
theorem isSegW {x : List D} (h : IsL [.int .i64, .int .i64, .slice [.int .i64, .int .i64, .int .i64, .int .i64, .int .i64]] x) : ∃ s : Sg, x = segRow s ∧ s.hops.length ≤ maxLen ∧ segW s := by
  simp only [IsL] at h
  obtain ⟨_, _, rfl, h1, _, _, rfl, h2, _, _, rfl, h3, rfl⟩ := h
  obtain ⟨a, rfl, w1⟩ := isIntW h1
  obtain ⟨b, rfl, w2⟩ := isIntW h2
  obtain ⟨l, rfl, hl, w3⟩ := isRowsW (fun _ => isHopW) h3
  exact ⟨⟨a, b, l⟩, rfl, hl, w1, w2, w3⟩
theorem isTpW {x : List D} (h : IsL [.slice [.int .i64, .bool, .int .i64], .slice [.int .i64, .int .i64, .int .i64, .int .i64, .int .i64]] x) : ∃ t : Tp, x = tpRow t ∧ (t.ases.length ≤ maxLen ∧ t.links.length ≤ maxLen) ∧ tpW t := by
  simp only [IsL] at h
  obtain ⟨_, _, rfl, h1, _, _, rfl, h2, rfl⟩ := h
  obtain ⟨l, rfl, hl, w1⟩ := isRowsW (fun _ => isAsW) h1
  obtain ⟨m, rfl, hm, w2⟩ := isRowsW (fun _ => isLkW) h2
  exact ⟨⟨l, m⟩, rfl, ⟨hl, hm⟩, w1, w2⟩
theorem rowLen_hops (l : List Hp) : RowLen (l.map hopRow) 5 := rowLen_map fun _ => rfl
theorem rowLen_ases (l : List As) : RowLen (l.map asRow) 3 := rowLen_map fun _ => rfl
theorem rowLen_links (l : List Lk) : RowLen (l.map lkRow) 5 := rowLen_map fun _ => rfl
def realm (t : Tp) (r : Int) : Bool := inR r 0 ((t.ases.length : Int) - 1)
theorem realm_lt {t : Tp} {r : Int} (h : realm t r = true) : 0 ≤ r ∧ r.toNat < t.ases.length := by
  simp only [realm, inR, Bool.and_eq_true, decide_eq_true_eq] at h
  omega

def verHop (t : Tp) (ts be : Int) (h : Hp) : Bool := validHop h && (if hh : realm t h.asn = true then h.mac == hopMac (t.ases[h.asn.toNat]'(realm_lt hh).2).key ts be h else false)

end Go.Proofs.Ytelolknpcmjdeaa
