/- The words of this program. -/
import Derived.Test.YtmiclkgkfkcnoaaMP
import Derived.Test.YtmiclkgkfkcnoaaProg
/- The words of this part of the program (a). -/
namespace Go.Proofs.Ytmiclkgkfkcnoaa
open Go.RowKit
set_option linter.unusedSimpArgs false
set_option linter.unusedVariables false
set_option maxRecDepth 100000
set_option linter.defProp false
theorem ti3 : tI Try.prog 3 = ⟨.int .i64, 1, [.int .i64 0]⟩ := by kernel_rfl
theorem ct3 : ctOf Try.prog 8 3 = some [.int .i64] := by kernel_rfl
theorem ti4 : tI Try.prog 4 = ⟨.bool, 1, [.bool false]⟩ := by kernel_rfl
theorem ti5 : tI Try.prog 5 = ⟨.int .u8, 1, [.int .u8 0]⟩ := by kernel_rfl
theorem ti9 : tI Try.prog 9 = ⟨.str, 1, [.str []]⟩ := by kernel_rfl
theorem ti22 : tI Try.prog 22 = ⟨.slice 5 1 1 [.int .u8 0], 1, [.nl]⟩ := by kernel_rfl
theorem ti24 : tI Try.prog 24 = ⟨.slice 172 3 24 [.int .i64 0, .bool false, .int .i64 0], 1, [.nl]⟩ := by kernel_rfl
theorem ti25 : tI Try.prog 25 = ⟨.slice 175 5 40 [.int .i64 0, .int .i64 0, .int .i64 0, .int .i64 0, .int .i64 0], 1, [.nl]⟩ := by kernel_rfl
theorem ti27 : tI Try.prog 27 = ⟨.struct [(0, 1), (1, 1)], 2, [.nl, .nl]⟩ := by kernel_rfl
theorem ti28 : tI Try.prog 28 = ⟨.slice 33 4 48 [.int .i64 0, .int .i64 0, .int .i64 0, .nl], 1, [.nl]⟩ := by kernel_rfl
theorem ti29 : tI Try.prog 29 = ⟨.slice 72 5 40 [.int .i64 0, .int .i64 0, .int .i64 0, .int .i64 0, .int .i64 0], 1, [.nl]⟩ := by kernel_rfl
theorem ti31 : tI Try.prog 31 = ⟨.struct [(0, 1), (1, 1), (2, 1)], 3, [.int .i64 0, .int .i64 0, .nl]⟩ := by kernel_rfl
theorem ti33 : tI Try.prog 33 = ⟨.struct [(0, 1), (1, 3)], 4, [.int .i64 0, .int .i64 0, .int .i64 0, .nl]⟩ := by kernel_rfl
theorem ti46 : tI Try.prog 46 = ⟨.slice 127 4 48 [.int .i64 0, .int .i64 0, .int .i64 0, .nl], 1, [.nl]⟩ := by kernel_rfl
theorem ct46 : ctOf Try.prog 8 46 = some [.slice [.int .i64, .int .i64, .int .i64, .slice [.int .i64, .int .i64, .int .i64, .int .i64, .int .i64]]] := by kernel_rfl
theorem ti53 : tI Try.prog 53 = ⟨.struct [(0, 1), (1, 1), (2, 1), (3, 1)], 4, [.int .i64 0, .int .i64 0, .int .i64 0, .int .i64 0]⟩ := by kernel_rfl
theorem ti60 : tI Try.prog 60 = ⟨.slice 53 4 32 [.int .i64 0, .int .i64 0, .int .i64 0, .int .i64 0], 1, [.nl]⟩ := by kernel_rfl
theorem ti72 : tI Try.prog 72 = ⟨.struct [(0, 1), (1, 1), (2, 1), (3, 1), (4, 1)], 5, [.int .i64 0, .int .i64 0, .int .i64 0, .int .i64 0, .int .i64 0]⟩ := by kernel_rfl
theorem ti107 : tI Try.prog 107 = ⟨.slice 3 1 8 [.int .i64 0], 1, [.nl]⟩ := by kernel_rfl
theorem ti123 : tI Try.prog 123 = ⟨.slice 196 5 40 [.int .i64 0, .int .i64 0, .int .i64 0, .int .i64 0, .int .i64 0], 1, [.nl]⟩ := by kernel_rfl
theorem ti125 : tI Try.prog 125 = ⟨.struct [(0, 1), (1, 1), (2, 1)], 3, [.int .i64 0, .int .i64 0, .nl]⟩ := by kernel_rfl
theorem ti127 : tI Try.prog 127 = ⟨.struct [(0, 1), (1, 3)], 4, [.int .i64 0, .int .i64 0, .int .i64 0, .nl]⟩ := by kernel_rfl
theorem ti162 : tI Try.prog 162 = ⟨.slice 9 1 16 [.str []], 1, [.nl]⟩ := by kernel_rfl
theorem ti167 : tI Try.prog 167 = ⟨.struct [(0, 1), (1, 1), (2, 1)], 3, [.nl, .int .i64 0, .int .i64 0]⟩ := by kernel_rfl
theorem ti172 : tI Try.prog 172 = ⟨.struct [(0, 1), (1, 1), (2, 1)], 3, [.int .i64 0, .bool false, .int .i64 0]⟩ := by kernel_rfl
theorem ti175 : tI Try.prog 175 = ⟨.struct [(0, 1), (1, 1), (2, 1), (3, 1), (4, 1)], 5, [.int .i64 0, .int .i64 0, .int .i64 0, .int .i64 0, .int .i64 0]⟩ := by kernel_rfl
theorem ti178 : tI Try.prog 178 = ⟨.int .u64, 1, [.int .u64 0]⟩ := by kernel_rfl
theorem ti196 : tI Try.prog 196 = ⟨.struct [(0, 1), (1, 1), (2, 1), (3, 1), (4, 1)], 5, [.int .i64 0, .int .i64 0, .int .i64 0, .int .i64 0, .int .i64 0]⟩ := by kernel_rfl
def bT := And.intro ti3 (And.intro ti4 (And.intro ti5 (And.intro ti9 (And.intro ti22 (And.intro ti24 (And.intro ti25 (And.intro ti27 (And.intro ti28 (And.intro ti29 (And.intro ti31 (And.intro ti33 (And.intro ti46 (And.intro ti53 (And.intro ti60 (And.intro ti72 (And.intro ti107 (And.intro ti123 (And.intro ti125 (And.intro ti127 (And.intro ti162 (And.intro ti167 (And.intro ti172 (And.intro ti175 (And.intro ti178 (ti196)))))))))))))))))))))))))
structure Hp where
  asn : Int
  ing : Int
  eg : Int
  ex : Int
  mac : Int
  deriving DecidableEq
structure Pl where
  ml : Int
  den : Int
  clo : Int
  life : Int
  deriving DecidableEq
abbrev hopRow (h : Hp) : List D := [.int .i64 h.asn, .int .i64 h.ing, .int .i64 h.eg, .int .i64 h.ex, .int .i64 h.mac]
abbrev polRow (p : Pl) : List D := [.int .i64 p.ml, .int .i64 p.den, .int .i64 p.clo, .int .i64 p.life]
structure Sg where
  ts : Int
  beta : Int
  hops : List Hp
  deriving DecidableEq
abbrev segRow (s : Sg) : List D := [.int .i64 s.ts, .int .i64 s.beta, .sl (s.hops.map hopRow)]

theorem wr64 {a : Int} (h : -9223372036854775808 ≤ a) (h' : a < 9223372036854775808) : IntKind.i64.wrap a = a := by
  rw [IntKind.wrap_i64]; omega
theorem wrapS {k : Nat} (h : k < 4611686018427387904) : IntKind.i64.wrap ((k : Int) + 1) = (k : Int) + 1 := wr64 (by omega) (by omega)
theorem take_step {α : Type} {l m : List α} {k : Nat} (h : k < l.length) (h' : k < m.length) (ht : l.take k = m.take k) (he : l[k] = m[k]) : l.take (k + 1) = m.take (k + 1) := by
  rw [List.take_succ_eq_append_getElem h, List.take_succ_eq_append_getElem h', ht, he]
def fillR {α : Type} (f : α → List D) (z : List D) (l : List α) (k : Nat) : List (List D) := (l.take k).map f ++ List.replicate (l.length - k) z
section
variable {α : Type} {f : α → List D} {z : List D} {l : List α} {k : Nat}
theorem fillR_len (h : k ≤ l.length) : (fillR f z l k).length = l.length := by simp [fillR]; omega
theorem fillR_get (h : k < l.length) : (fillR f z l k).getD k [] = z := by
  simp only [fillR, List.getD, List.getElem?_append, List.length_map, List.length_take]
  rw [if_neg (by omega)]
  simp [show k - min k l.length = 0 by omega, List.getElem?_replicate, show 0 < l.length - k by omega]
theorem fillR_set (h : k < l.length) : (fillR f z l k).set k (f l[k]) = fillR f z l (k + 1) := by
  simp only [fillR]
  rw [List.set_append_right _ _ (by simp; omega)]
  have e1 : k - ((l.take k).map f).length = 0 := by simp; omega
  have e2 : l.length - k = (l.length - (k + 1)) + 1 := by omega
  rw [e1, e2, List.replicate_succ, List.set_cons_zero, List.take_succ_eq_append_getElem h, List.map_append, List.append_assoc]
  rfl
theorem fillR_zero : fillR f z l 0 = List.replicate l.length z := by simp [fillR]
theorem fillR_all : fillR f z l l.length = l.map f := by simp [fillR]
end
theorem getD_map_lt {α : Type} {f : α → List D} {l : List α} {k : Nat} (h : k < l.length) : (l.map f).getD k [] = f l[k] := by simp [List.getD, h]

theorem eq_hop : AggEq Try.prog 72 5 := aggEq_of (by kernel_rfl)

def inR (a b c : Int) : Bool := decide (b ≤ a) && decide (a ≤ c)

end Go.Proofs.Ytmiclkgkfkcnoaa

/- The words of this part of the program (b). -/
namespace Go.Proofs.Ytmiclkgkfkcnoaa
open Go.RowKit
set_option linter.unusedSimpArgs false
set_option linter.unusedVariables false
set_option maxRecDepth 100000
def validHop (h : Hp) : Bool := inR h.asn 0 7 && inR h.ing 0 6 && inR h.eg 0 6 && (h.ing != h.eg) && inR h.ex 0 1000000 && inR h.mac 0 2147483646
end Go.Proofs.Ytmiclkgkfkcnoaa

/- The words of this part of the program (c). -/
namespace Go.Proofs.Ytmiclkgkfkcnoaa
open Go.RowKit
set_option linter.unusedSimpArgs false
set_option linter.unusedVariables false
set_option maxRecDepth 100000
def leastEx : List Hp → Int
  | [] => 0
  | h :: t => t.foldl (fun m x => min m x.ex) h.ex
theorem leastEx_step (l : List Hp) (k : Nat) (h : k < l.length) : leastEx (l.take (k + 1)) = if k = 0 then l[k].ex else min (leastEx (l.take k)) l[k].ex := by
  rw [List.take_succ_eq_append_getElem h]
  cases l with
  | nil => simp at h
  | cons x t =>
    cases k with
    | zero => simp [leastEx]
    | succ k =>
      simp only [List.take_succ_cons, List.cons_append, leastEx, List.foldl_append, List.foldl_cons, List.foldl_nil, List.getElem_cons_succ]
      simp

end Go.Proofs.Ytmiclkgkfkcnoaa

/- The words of this part of the program (d). -/
namespace Go.Proofs.Ytmiclkgkfkcnoaa
open Go.RowKit
set_option linter.unusedSimpArgs false
set_option linter.unusedVariables false
set_option maxRecDepth 100000
abbrev intRow (n : Int) : List D := [.int .i64 n]
theorem rowLen_map {α : Type} {f : α → List D} {s : Nat} {l : List α} (h : ∀ a, (f a).length = s) : RowLen (l.map f) s := by
  intro r hr
  obtain ⟨a, _, rfl⟩ := List.mem_map.1 hr
  exact h a
theorem rowLen_ints (l : List Int) : RowLen (l.map intRow) 1 := rowLen_map fun _ => rfl
theorem rowLen_nil (s : Nat) : RowLen [] s := by intro r hr; simp at hr
theorem rowLen_cons (r : List D) (l : List (List D)) (s : Nat) : RowLen (r :: l) s = (r.length = s ∧ RowLen l s) := by simp [RowLen]
theorem rowLen_append (l m : List (List D)) (s : Nat) : RowLen (l ++ m) s = (RowLen l s ∧ RowLen m s) := by
  simp only [RowLen, List.mem_append, eq_iff_iff]
  exact ⟨fun h => ⟨fun r hr => h r (.inl hr), fun r hr => h r (.inr hr)⟩, fun h r hr => hr.elim (h.1 r) (h.2 r)⟩

def modZ (n m : Int) : Int := if inR m 1 1000000000000 then (IntKind.i64.wrap (n.tmod m + m)).tmod m else 0
def digStep (d x : Int) : Int := (IntKind.i64.wrap (IntKind.i64.wrap (IntKind.i64.wrap (d * 1000003) + modZ x 2147483647) + 11)).tmod 2147483647
def digest (l : List Int) : Int := l.foldl digStep 7
def mac (key : Int) (l : List Int) : Int := digest (key :: (l ++ [key]))

def hopMac (key ts be : Int) (h : Hp) : Int := mac key [ts, be, h.asn, h.ing, h.eg, h.ex]
end Go.Proofs.Ytmiclkgkfkcnoaa

/- The words of this part of the program (e). -/
namespace Go.Proofs.Ytmiclkgkfkcnoaa
open Go.RowKit
set_option linter.unusedSimpArgs false
set_option linter.unusedVariables false
set_option maxRecDepth 100000
end Go.Proofs.Ytmiclkgkfkcnoaa

/- The words of this part of the program (f). -/
namespace Go.Proofs.Ytmiclkgkfkcnoaa
open Go.RowKit
set_option linter.unusedSimpArgs false
set_option linter.unusedVariables false
set_option maxRecDepth 100000
abbrev byteRow (b : UInt8) : List D := [.int .u8 b.toNat]
theorem rowLen_bytes (l : List UInt8) : RowLen (l.map byteRow) 1 := rowLen_map fun _ => rfl
theorem bytesOf_map : ∀ (l : List UInt8), bytesOf (l.map byteRow) = some l
  | [] => rfl
  | b :: l => by simp [bytesOf, bytesOf_map l]
theorem bytesOf_cons (b : UInt8) (l : List UInt8) : bytesOf ([.int .u8 b.toNat] :: l.map byteRow) = some (b :: l) := bytesOf_map (b :: l)
theorem bytesOf_one (b : UInt8) : bytesOf [[.int .u8 b.toNat]] = some [b] := bytesOf_map [b]
end Go.Proofs.Ytmiclkgkfkcnoaa

/- The words of this part of the program (g). -/
namespace Go.Proofs.Ytmiclkgkfkcnoaa
open Go.RowKit
set_option linter.unusedSimpArgs false
set_option linter.unusedVariables false
set_option maxRecDepth 100000
def cont (s i : Int) : Bool := inR s 0 65535 && inR i 0 15 && (IntKind.i64.wrap (BitVec.ofInt IntKind.i64.bits (s.fdiv (2 ^ min i.toNat IntKind.i64.bits)) &&& BitVec.ofInt IntKind.i64.bits 1).toNat == 1)
def elemsK (s : Int) (k : Nat) : List Int := (List.range k).flatMap fun (i : Nat) => if cont s i then [(i : Int)] else []
def elems (s : Int) : List Int := elemsK s 16
theorem rowLen_strs (l : List (List UInt8)) : RowLen (l.map fun s => [D.str s]) 1 := rowLen_map fun _ => rfl
theorem i64_wf {a : Int} (h : (Lit.int .i64 a).wf = true) : -9223372036854775808 ≤ a ∧ a < 9223372036854775808 := by
  simp only [Lit.wf, Bool.and_eq_true, decide_eq_true_eq] at h
  have h1 : IntKind.i64.min = -9223372036854775808 := by decide
  have h2 : IntKind.i64.max = 9223372036854775807 := by decide
  omega
end Go.Proofs.Ytmiclkgkfkcnoaa

/- The words of this part of the program (h). -/
namespace Go.Proofs.Ytmiclkgkfkcnoaa
open Go.RowKit
set_option linter.unusedSimpArgs false
set_option linter.unusedVariables false
set_option maxRecDepth 100000
structure As where
  isd : Int
  core : Bool
  key : Int
  deriving DecidableEq
structure Lk where
  a : Int
  ai : Int
  b : Int
  bi : Int
  kind : Int
  deriving DecidableEq
structure Tp where
  ases : List As
  links : List Lk
  deriving DecidableEq
abbrev asRow (x : As) : List D := [.int .i64 x.isd, .bool x.core, .int .i64 x.key]
abbrev lkRow (x : Lk) : List D := [.int .i64 x.a, .int .i64 x.ai, .int .i64 x.b, .int .i64 x.bi, .int .i64 x.kind]
abbrev tpRow (t : Tp) : List D := [.sl (t.ases.map asRow), .sl (t.links.map lkRow)]
def i64R (n : Int) : Prop := -9223372036854775808 ≤ n ∧ n < 9223372036854775808
theorem isIntW {x : D} (h : IsC (.int .i64) x) : ∃ a, x = .int .i64 a ∧ i64R a := by
  simp only [IsC] at h
  obtain ⟨a, rfl, w⟩ := h
  exact ⟨a, rfl, i64_wf w⟩
def hopW (h : Hp) : Prop := i64R h.asn ∧ i64R h.ing ∧ i64R h.eg ∧ i64R h.ex ∧ i64R h.mac
def asW (x : As) : Prop := i64R x.isd ∧ i64R x.key
def lkW (x : Lk) : Prop := i64R x.a ∧ i64R x.ai ∧ i64R x.b ∧ i64R x.bi ∧ i64R x.kind
def segW (s : Sg) : Prop := i64R s.ts ∧ i64R s.beta ∧ ∀ h ∈ s.hops, hopW h
def tpW (t : Tp) : Prop := (∀ x ∈ t.ases, asW x) ∧ (∀ x ∈ t.links, lkW x)
theorem isHopW {x : List D} (h : IsL [.int .i64, .int .i64, .int .i64, .int .i64, .int .i64] x) : ∃ p : Hp, x = hopRow p ∧ hopW p := by
  simp only [IsL] at h
  obtain ⟨_, _, rfl, h1, _, _, rfl, h2, _, _, rfl, h3, _, _, rfl, h4, _, _, rfl, h5, rfl⟩ := h
  obtain ⟨a, rfl, w1⟩ := isIntW h1
  obtain ⟨b, rfl, w2⟩ := isIntW h2
  obtain ⟨c, rfl, w3⟩ := isIntW h3
  obtain ⟨d, rfl, w4⟩ := isIntW h4
  obtain ⟨e, rfl, w5⟩ := isIntW h5
  exact ⟨⟨a, b, c, d, e⟩, rfl, w1, w2, w3, w4, w5⟩
theorem isRowsW {α : Type} {f : α → List D} {W : α → Prop} {es : List CT} (hf : ∀ x, IsL es x → ∃ a, x = f a ∧ W a) {x : D} (h : IsC (.slice es) x) : ∃ l : List α, x = .sl (l.map f) ∧ l.length ≤ maxLen ∧ ∀ a ∈ l, W a := by
  simp only [IsC] at h
  obtain ⟨rows, rfl, hl, hr⟩ := h
  have : ∃ l : List α, rows = l.map f ∧ ∀ a ∈ l, W a := by
    clear hl
    induction rows with
    | nil => exact ⟨[], rfl, by simp⟩
    | cons r rs ih =>
      obtain ⟨l, hl, hw⟩ := ih fun r hr' => hr r (by simp [hr'])
      obtain ⟨a, ha, wa⟩ := hf r (hr r (by simp))
      exact ⟨a :: l, by simp [ha, hl], by simpa using ⟨wa, hw⟩⟩
  obtain ⟨l, rfl, hw⟩ := this
  exact ⟨l, rfl, by simpa using hl, hw⟩
theorem rowLen_hops (l : List Hp) : RowLen (l.map hopRow) 5 := rowLen_map fun _ => rfl
theorem rowLen_ases (l : List As) : RowLen (l.map asRow) 3 := rowLen_map fun _ => rfl
theorem rowLen_links (l : List Lk) : RowLen (l.map lkRow) 5 := rowLen_map fun _ => rfl
def realm (t : Tp) (r : Int) : Bool := inR r 0 ((t.ases.length : Int) - 1)
theorem realm_lt {t : Tp} {r : Int} (h : realm t r = true) : 0 ≤ r ∧ r.toNat < t.ases.length := by
  simp only [realm, inR, Bool.and_eq_true, decide_eq_true_eq] at h
  omega

def verHop (t : Tp) (ts be : Int) (h : Hp) : Bool := validHop h && (if hh : realm t h.asn = true then h.mac == hopMac (t.ases[h.asn.toNat]'(realm_lt hh).2).key ts be h else false)

end Go.Proofs.Ytmiclkgkfkcnoaa

/- The words of this part of the program (i). -/
namespace Go.Proofs.Ytmiclkgkfkcnoaa
open Go.RowKit
set_option linter.unusedSimpArgs false
set_option linter.unusedVariables false
set_option maxRecDepth 100000
def addM2 (b s : Int) : Int := if inR b 0 2147483646 && inR s 0 2147483646 then (IntKind.i64.wrap (b + s)).tmod 2147483647 else 0
def chainA (b : Int) (l : List Int) : Int := l.foldl addM2 b
def macs (l : List Hp) : List Int := l.map Hp.mac
def ases (l : List Hp) : List Int := l.map Hp.asn
def betaAt (s : Sg) (i : Int) : Int := if inR i 0 s.hops.length then chainA s.beta (macs (s.hops.take i.toNat)) else 0

end Go.Proofs.Ytmiclkgkfkcnoaa

/- The words of this part of the program (j). -/
namespace Go.Proofs.Ytmiclkgkfkcnoaa
open Go.RowKit
set_option linter.unusedSimpArgs false
set_option linter.unusedVariables false
set_option maxRecDepth 100000
structure Bc where
  ing : Int
  seg : Sg
  deriving DecidableEq
abbrev bcRow (b : Bc) : List D := [.int .i64 b.ing, .int .i64 b.seg.ts, .int .i64 b.seg.beta, .sl (b.seg.hops.map hopRow)]
def bcW (b : Bc) : Prop := i64R b.ing ∧ segW b.seg
theorem isBcW {x : List D} (h : IsL [.int .i64, .int .i64, .int .i64, .slice [.int .i64, .int .i64, .int .i64, .int .i64, .int .i64]] x) : ∃ b : Bc, x = bcRow b ∧ b.seg.hops.length ≤ maxLen ∧ bcW b := by
  simp only [IsL] at h
  obtain ⟨_, _, rfl, h0, _, _, rfl, h1, _, _, rfl, h2, _, _, rfl, h3, rfl⟩ := h
  obtain ⟨z, rfl, w0⟩ := isIntW h0
  obtain ⟨a, rfl, w1⟩ := isIntW h1
  obtain ⟨b, rfl, w2⟩ := isIntW h2
  obtain ⟨l, rfl, hl, w3⟩ := isRowsW (fun _ => isHopW) h3
  exact ⟨⟨z, ⟨a, b, l⟩⟩, rfl, hl, w0, w1, w2, w3⟩
theorem isBcs {x : D} (h : IsC (.slice [.int .i64, .int .i64, .int .i64, .slice [.int .i64, .int .i64, .int .i64, .int .i64, .int .i64]]) x) : ∃ l : List Bc, x = .sl (l.map bcRow) ∧ l.length ≤ maxLen ∧ ∀ b ∈ l, b.seg.hops.length ≤ maxLen ∧ bcW b :=
  isRowsW (fun _ => isBcW) h
theorem rowLen_bcs (l : List Bc) : RowLen (l.map bcRow) 4 := rowLen_map fun _ => rfl
def szB (l : List Bc) : Nat := (l.map fun b => b.seg.hops.length).sum
theorem szB_step (l : List Bc) (k : Nat) (h : k < l.length) : szB (l.take (k + 1)) = szB (l.take k) + l[k].seg.hops.length := by
  rw [List.take_succ_eq_append_getElem h]; simp only [szB, List.map_append, List.sum_append, List.map_cons, List.map_nil, List.sum_cons, List.sum_nil, Nat.add_zero]
theorem szB_take (l : List Bc) (k : Nat) : szB (l.take k) ≤ szB l := by
  conv => rhs; rw [← List.take_append_drop k l]
  simp only [szB, List.map_append, List.sum_append]; omega
theorem szB_mem {l : List Bc} {b : Bc} (h : b ∈ l) : b.seg.hops.length ≤ szB l := by
  induction l with
  | nil => simp at h
  | cons x l ih =>
    simp only [szB, List.map_cons, List.sum_cons] at ih ⊢
    rcases List.mem_cons.1 h with rfl | h
    · omega
    · have := ih h; omega
def leftB (l : List Bc) (a : Int) : Int := if a - l.length - szB l < 0 then -1 else a - l.length - szB l

end Go.Proofs.Ytmiclkgkfkcnoaa

/- The words of this part of the program (k). -/
namespace Go.Proofs.Ytmiclkgkfkcnoaa
open Go.RowKit
set_option linter.unusedSimpArgs false
set_option linter.unusedVariables false
set_option maxRecDepth 100000
theorem flat_map {α : Type} {f : α → List D} (hf : ∀ a, (f a).all scal = true) (l : List α) : FlatRows (l.map f) := by
  intro r hr d hd
  obtain ⟨a, _, rfl⟩ := List.mem_map.1 hr
  exact List.all_eq_true.1 (hf a) d hd
end Go.Proofs.Ytmiclkgkfkcnoaa

/- The words of this part of the program (l). -/
namespace Go.Proofs.Ytmiclkgkfkcnoaa
open Go.RowKit
set_option linter.unusedSimpArgs false
set_option linter.unusedVariables false
set_option maxRecDepth 100000
def ends (l : Lk) (r d : Int) : Bool := (l.a == r && l.ai == d) || (l.b == r && l.bi == d)
def fstF (p : Nat → Bool) : Nat → Nat → Int
  | 0, _ => -1
  | m + 1, i => if p i then i else fstF p m (i + 1)
def allN (p : Nat → Bool) : Nat → Bool
  | 0 => true
  | n + 1 => allN p n && p n
def lz : Lk := ⟨0, 0, 0, 0, 0⟩
def hz : Hp := ⟨0, 0, 0, 0, 0⟩
def lnk (t : Tp) (r d : Int) : Int := fstF (fun i => ends (t.links.getD i lz) r d) t.links.length 0
def remote (t : Tp) (r d : Int) : Int × Int :=
  if lnk t r d < 0 then (-1, 0)
  else if ((t.links.getD (lnk t r d).toNat lz).a == r && (t.links.getD (lnk t r d).toNat lz).ai == d) = true then ((t.links.getD (lnk t r d).toNat lz).b, (t.links.getD (lnk t r d).toNat lz).bi)
  else ((t.links.getD (lnk t r d).toNat lz).a, (t.links.getD (lnk t r d).toNat lz).ai)
def ifKind (t : Tp) (r d : Int) : Int :=
  if (d == 0) = true then 5 else if lnk t r d < 0 then 0
  else if ((t.links.getD (lnk t r d).toNat lz).kind == 1) = true then 1 else if ((t.links.getD (lnk t r d).toNat lz).kind == 3) = true then 4
  else if ((t.links.getD (lnk t r d).toNat lz).kind == 2) = true then (if ((t.links.getD (lnk t r d).toNat lz).a == r && (t.links.getD (lnk t r d).toNat lz).ai == d) = true then 2 else 3) else 0
def hasI (l : List Int) (n : Int) : Bool := l.any fun x => x == n
def hopP (t : Tp) (l : List Hp) (i : Nat) : Bool := validHop (l.getD i hz) && realm t (l.getD i hz).asn && !(hasI (ases (l.take i)) (l.getD i hz).asn)
def lnkP (t : Tp) (l : List Hp) (i : Nat) : Bool := !((l.getD i hz).eg == 0 && decide ((i : Int) < (l.length : Int) - 1)) && (!decide (0 < (i : Int)) || ((remote t (l.getD (i - 1) hz).asn (l.getD (i - 1) hz).eg).1 == (l.getD i hz).asn && (remote t (l.getD (i - 1) hz).asn (l.getD (i - 1) hz).eg).2 == (l.getD i hz).ing))
def hopsOkF (t : Tp) (l : List Hp) : Bool := inR l.length 1 8 && allN (hopP t l) l.length
def wellF (t : Tp) (s : Sg) : Bool := hopsOkF t s.hops && ((s.hops.getD 0 hz).ing == 0) && allN (lnkP t s.hops) s.hops.length

end Go.Proofs.Ytmiclkgkfkcnoaa

/- The words of this part of the program (m). -/
namespace Go.Proofs.Ytmiclkgkfkcnoaa
open Go.RowKit
set_option linter.unusedSimpArgs false
set_option linter.unusedVariables false
set_option maxRecDepth 100000
end Go.Proofs.Ytmiclkgkfkcnoaa

/- The words of this part of the program (n). -/
namespace Go.Proofs.Ytmiclkgkfkcnoaa
open Go.RowKit
set_option linter.unusedSimpArgs false
set_option linter.unusedVariables false
set_option maxRecDepth 100000
def verAt (t : Tp) (s : Sg) (i : Nat) : Bool := verHop t s.ts (betaAt s i) (s.hops.getD i hz)
def coreF (t : Tp) (r : Int) : Bool := if hh : realm t r = true then (t.ases[r.toNat]'(realm_lt hh).2).core else false
def kindF (t : Tp) : List Hp → Int → Option Int
  | [], kd => some kd
  | h :: l, kd => if (h.eg == 0) = true then kindF t l kd else if (kd == 0) = true then kindF t l (ifKind t h.asn h.eg) else if (ifKind t h.asn h.eg == kd) = true then kindF t l kd else none
end Go.Proofs.Ytmiclkgkfkcnoaa

/- The words of this part of the program (o). -/
namespace Go.Proofs.Ytmiclkgkfkcnoaa
open Go.RowKit
set_option linter.unusedSimpArgs false
set_option linter.unusedVariables false
set_option maxRecDepth 100000
def oz : Int := 0

end Go.Proofs.Ytmiclkgkfkcnoaa

/- The words of this part of the program (p). -/
namespace Go.Proofs.Ytmiclkgkfkcnoaa
open Go.RowKit
set_option linter.unusedSimpArgs false
set_option linter.unusedVariables false
set_option maxRecDepth 100000
end Go.Proofs.Ytmiclkgkfkcnoaa

/- The words of this part of the program (q). -/
namespace Go.Proofs.Ytmiclkgkfkcnoaa
open Go.RowKit
set_option linter.unusedSimpArgs false
set_option linter.unusedVariables false
set_option maxRecDepth 100000
def marks {α : Type} (mk : Int → α) (s : Nat) (k : Int) (n : Nat) : List α := (List.range n).map fun (i : Nat) => mk (k + s * i)
theorem marks_len {α : Type} (mk : Int → α) (s : Nat) (k : Int) (n : Nat) : (marks mk s k n).length = n := by simp [marks]
theorem marks_get {α : Type} {f : α → List D} (mk : Int → α) (s : Nat) (k : Int) {n j : Nat} (h : j < n) : ((marks mk s k n).map f).getD j [] = f (mk (k + s * j)) := by simp [marks, List.getD, h]
theorem marks_step {α : Type} (mk : Int → α) (s : Nat) (k : Int) (n : Nat) : marks mk s k (n + 1) = marks mk s k n ++ [mk (k + s * n)] := by simp [marks, List.range_succ]
def mixM {α : Type} (f : α → List D) (mk : Int → α) (s : Nat) (k : Int) (l : List α) (j : Nat) : List (List D) := (marks mk s k j).map f ++ (l.drop j).map f
section
variable {α : Type} {f : α → List D} {mk : Int → α} {s : Nat} {k : Int} {l : List α} {j : Nat}
theorem mixM_len (h : j ≤ l.length) : (mixM f mk s k l j).length = l.length := by simp [mixM, marks_len]; omega
theorem mixM_get (h : j < l.length) : (mixM f mk s k l j).getD j [] = f l[j] := by
  simp only [mixM, List.getD]
  rw [List.getElem?_append_right (by simp [marks_len])]
  simp [marks_len, h]
theorem mixM_put (h : j < l.length) (x : List D) : ((mixM f mk s k l j).set j x).getD j [] = x := by
  have := mixM_len (f := f) (mk := mk) (s := s) (k := k) (Nat.le_of_lt h)
  simp [List.getD, this, h]
theorem mixM_set (h : j < l.length) : (mixM f mk s k l j).set j (f (mk (k + s * j))) = mixM f mk s k l (j + 1) := by
  simp only [mixM]
  rw [List.set_append_right _ _ (by simp [marks_len])]
  have e1 : j - ((marks mk s k j).map f).length = 0 := by simp [marks_len]
  rw [e1, List.drop_eq_getElem_cons h, List.map_cons, List.set_cons_zero, marks_step, List.map_append, List.append_assoc]
  rfl
theorem mixM_zero : mixM f mk s k l 0 = l.map f := by simp [mixM, marks]
theorem mixM_all : mixM f mk s k l l.length = (marks mk s k l.length).map f := by simp [mixM]
theorem map_len_marks {m : Nat} (h : m = l.length) : [(marks mk s k m).map f].map List.length = [l.map f].map List.length := by simp [marks_len, h]
end
theorem flat_one {rows : List (List D)} (h : FlatRows rows) : ∀ r ∈ [rows], FlatRows r := by intro r hr; rw [List.mem_singleton.1 hr]; exact h
theorem pin_one {M : Tab} {rows : List (List D)} (h : M 900 = some (.row rows)) : ∀ k r, [rows][k]? = some r → M (900 + k) = some (.row r) := by
  intro k r hr
  match k with
  | 0 => simp at hr; subst hr; exact h
  | k + 1 => simp at hr
abbrev u8Row (n : Int) : List D := [.int .u8 n]
def mkH (k : Int) : Hp := ⟨k, k + 1, k + 1 + 1, k + 1 + 1 + 1, k + 1 + 1 + 1 + 1⟩
end Go.Proofs.Ytmiclkgkfkcnoaa

/- The words of this part of the program (r). -/
namespace Go.Proofs.Ytmiclkgkfkcnoaa
open Go.RowKit
set_option linter.unusedSimpArgs false
set_option linter.unusedVariables false
set_option maxRecDepth 100000
end Go.Proofs.Ytmiclkgkfkcnoaa

/- The words of this part of the program (s). -/
namespace Go.Proofs.Ytmiclkgkfkcnoaa
open Go.RowKit
set_option linter.unusedSimpArgs false
set_option linter.unusedVariables false
set_option maxRecDepth 100000
end Go.Proofs.Ytmiclkgkfkcnoaa

/- The words of this part of the program (t). -/
namespace Go.Proofs.Ytmiclkgkfkcnoaa
open Go.RowKit
set_option linter.unusedSimpArgs false
set_option linter.unusedVariables false
set_option maxRecDepth 100000
end Go.Proofs.Ytmiclkgkfkcnoaa

/- The words of this part of the program (u). -/
namespace Go.Proofs.Ytmiclkgkfkcnoaa
open Go.RowKit
set_option linter.unusedSimpArgs false
set_option linter.unusedVariables false
set_option maxRecDepth 100000
end Go.Proofs.Ytmiclkgkfkcnoaa

/- The words of this part of the program (v). -/
namespace Go.Proofs.Ytmiclkgkfkcnoaa
open Go.RowKit
set_option linter.unusedSimpArgs false
set_option linter.unusedVariables false
set_option maxRecDepth 100000
end Go.Proofs.Ytmiclkgkfkcnoaa

/- The words of this part of the program (w). -/
namespace Go.Proofs.Ytmiclkgkfkcnoaa
open Go.RowKit
set_option linter.unusedSimpArgs false
set_option linter.unusedVariables false
set_option maxRecDepth 100000
end Go.Proofs.Ytmiclkgkfkcnoaa

/- The words of this part of the program (x). -/
namespace Go.Proofs.Ytmiclkgkfkcnoaa
open Go.RowKit
set_option linter.unusedSimpArgs false
set_option linter.unusedVariables false
set_option maxRecDepth 100000
end Go.Proofs.Ytmiclkgkfkcnoaa

/- The words of this part of the program (y). -/
namespace Go.Proofs.Ytmiclkgkfkcnoaa
open Go.RowKit
set_option linter.unusedSimpArgs false
set_option linter.unusedVariables false
set_option maxRecDepth 100000
def hopS (h : Hp) : Prop := (-8589934592 ≤ h.asn ∧ h.asn ≤ 8589934592) ∧ (-8589934592 ≤ h.ing ∧ h.ing ≤ 8589934592) ∧ (-8589934592 ≤ h.eg ∧ h.eg ≤ 8589934592) ∧ (-8589934592 ≤ h.ex ∧ h.ex ≤ 8589934592) ∧ (-8589934592 ≤ h.mac ∧ h.mac ≤ 8589934592)

end Go.Proofs.Ytmiclkgkfkcnoaa

/- The words of this part of the program (z). -/
namespace Go.Proofs.Ytmiclkgkfkcnoaa
open Go.RowKit
set_option linter.unusedSimpArgs false
set_option linter.unusedVariables false
set_option maxRecDepth 100000
def isdF (t : Tp) (r : Int) : Int := if hh : realm t r = true then (t.ases[r.toNat]'(realm_lt hh).2).isd else 0
def lkOk (t : Tp) (l : Lk) : Bool := realm t l.a && realm t l.b && decide (l.a < l.b) && inR l.ai 1 6 && inR l.bi 1 6 && (if l.kind == 1 then coreF t l.a && coreF t l.b else if l.kind == 2 then (isdF t l.a == isdF t l.b) && !coreF t l.b else (l.kind == 3) && !coreF t l.a && !coreF t l.b)
def putI : List Int → Int → List Int
  | [], n => [n]
  | x :: l, n => if x < n then x :: putI l n else if x = n then x :: l else n :: x :: l
def intfL (r : Int) (out : List Int) (l : Lk) : List Int :=
  let o1 := if l.a = r then putI out l.ai else out
  if l.b = r then putI o1 l.bi else o1
end Go.Proofs.Ytmiclkgkfkcnoaa

/- The words of this part of the program (za). -/
namespace Go.Proofs.Ytmiclkgkfkcnoaa
open Go.RowKit
set_option linter.unusedSimpArgs false
set_option linter.unusedVariables false
set_option maxRecDepth 100000
def endsL (L : List Lk) : List (Int × Int) := L.flatMap fun l => [(l.a, l.ai), (l.b, l.bi)]
def intfs (L : List Lk) (r : Int) : List Int := L.foldl (intfL r) []
structure Jt (L : List Lk) : Prop where
  nd : (endsL L).Nodup
  le : ∀ r i, (r, i) ∈ endsL L → 1 ≤ i ∧ i ≤ (intfs L r).length
def insN (s : Nat) (i : Int) : Nat := if 0 ≤ i ∧ i ≤ 15 then s ||| 2 ^ i.toNat else s
def mkSet (l : List Int) : Nat := l.foldl insN 0
/-! who is near -/
def ifsK (t : Tp) (r kind : Int) : List Int := (intfs t.links r).filter fun x => ifKind t r x == kind
def nbL (t : Tp) (kind r : Int) : List Int := (ifsK t r kind).map fun x => (remote t r x).1
def nS (t : Tp) (kind r : Int) : Nat := mkSet (nbL t kind r)
def nSL (t : Tp) (kind : Int) (l : List Int) : Nat := l.foldl (fun s r => s ||| nS t kind r) 0
def stepS (t : Tp) (kind : Int) (s : Nat) : Nat := nSL t kind (elems (s : Int))
def lev (t : Tp) (kind : Int) (l : List Int) : Nat → Nat
  | 0 => 0
  | 1 => nSL t kind l
  | k + 2 => stepS t kind (lev t kind l (k + 1))
end Go.Proofs.Ytmiclkgkfkcnoaa

/- The words of this part of the program (zb). -/
namespace Go.Proofs.Ytmiclkgkfkcnoaa
open Go.RowKit
set_option linter.unusedSimpArgs false
set_option linter.unusedVariables false
set_option maxRecDepth 100000
structure Dt (t : Tp) : Prop where
  n1 : 1 ≤ t.ases.length
  n8 : t.ases.length ≤ 8
  ln : t.links.length ≤ 64
  ok : ∀ l ∈ t.links, lkOk t l = true
  nd : (endsL t.links).Nodup
  w : ∀ a ∈ t.ases, asW a
structure Ds (t : Tp) : Prop where
  n8 : t.ases.length ≤ 8
  ln : t.links.length ≤ 65
  w : tpW t
theorem Dt.s {t : Tp} (h : Dt t) : Ds t := by
  refine ⟨h.n8, by have := h.ln; omega, h.w, ?_⟩
  intro l hl
  have := h.ok l hl
  simp only [lkOk, realm, inR, Bool.and_eq_true, decide_eq_true_eq] at this
  obtain ⟨⟨⟨⟨⟨h1, h2⟩, h3⟩, h4⟩, h5⟩, h6⟩ := this
  have h7 : l.kind = 1 ∨ l.kind = 2 ∨ l.kind = 3 := by
    by_cases k1 : (l.kind == 1) = true
    · left; simpa using k1
    · by_cases k2 : (l.kind == 2) = true
      · right; left; simpa using k2
      · rw [if_neg k1, if_neg k2] at h6
        simp only [Bool.and_eq_true, beq_iff_eq] at h6
        right; right; exact h6.1.1
  have := h.n8
  unfold lkW i64R
  omega
end Go.Proofs.Ytmiclkgkfkcnoaa

/- The words of this part of the program (zc). -/
namespace Go.Proofs.Ytmiclkgkfkcnoaa
open Go.RowKit
set_option linter.unusedSimpArgs false
set_option linter.unusedVariables false
set_option maxRecDepth 100000
end Go.Proofs.Ytmiclkgkfkcnoaa

/- The words of this part of the program (zd). -/
namespace Go.Proofs.Ytmiclkgkfkcnoaa
open Go.RowKit
set_option linter.unusedSimpArgs false
set_option linter.unusedVariables false
set_option maxRecDepth 100000
end Go.Proofs.Ytmiclkgkfkcnoaa

/- The words of this part of the program (ze). -/
namespace Go.Proofs.Ytmiclkgkfkcnoaa
open Go.RowKit
set_option linter.unusedSimpArgs false
set_option linter.unusedVariables false
set_option maxRecDepth 100000
def depGo (t : Tp) (r : Int) : Nat → Nat → Nat
  | 0, k => k
  | f + 1, k => if lev t 3 [r] (k + 1) = 0 then k else depGo t r f (k + 1)
def depth (t : Tp) (r : Int) : Nat := depGo t r 8 0
end Go.Proofs.Ytmiclkgkfkcnoaa

/- The words of this part of the program (zf). -/
namespace Go.Proofs.Ytmiclkgkfkcnoaa
open Go.RowKit
set_option linter.unusedSimpArgs false
set_option linter.unusedVariables false
set_option maxRecDepth 100000
structure Vs (t : Tp) (s : Sg) (k : Int) : Prop where
  well : wellF t s = true
  ver : ∀ i, i < s.hops.length → verAt t s i = true
  core : coreF t (s.hops.getD 0 hz).asn = true
  knd : kindF t s.hops 0 = some k
  k12 : k = 1 ∨ k = 2
  ts : 0 ≤ s.ts ∧ s.ts ≤ 1000000
  be : 0 ≤ s.beta ∧ s.beta ≤ 2147483646
structure Gs (t : Tp) (kind : Int) (s : Sg) : Prop where
  ts : 0 ≤ s.ts ∧ s.ts ≤ 49
  be : 0 ≤ s.beta ∧ s.beta ≤ 999999
  len : s.hops.length ≤ 5
  ok : s.hops = [] ∨ Vs t s kind
structure Gi (t : Tp) (kind ts be : Int) (k : Nat) (H : List Hp) (r inn : Int) : Prop where
  len : H.length = k
  rl : realm t r = true
  fst : k = 0 → inn = 0 ∧ coreF t r = true
  nxt : 0 < k → (1 ≤ inn ∧ inn ≤ 6) ∧ Vs t ⟨ts, be, H⟩ kind ∧ (H.getD (H.length - 1) hz).eg ≠ 0 ∧ hasI (ases H) r = false ∧ remote t (H.getD (H.length - 1) hz).asn (H.getD (H.length - 1) hz).eg = (r, inn)
end Go.Proofs.Ytmiclkgkfkcnoaa

/- The words of this part of the program (zh). -/
namespace Go.Proofs.Ytmiclkgkfkcnoaa
open Go.RowKit
set_option linter.unusedSimpArgs false
set_option linter.unusedVariables false
set_option maxRecDepth 100000
/-! a segment that is spoilt -/
structure segS (s : Sg) : Prop where
  len : s.hops.length ≤ 8
  ts : -8589934592 ≤ s.ts ∧ s.ts ≤ 8589934592
  be : -8589934592 ≤ s.beta ∧ s.beta ≤ 8589934592
  hop : ∀ h ∈ s.hops, hopS h
structure segT (s : Sg) : Prop where
  len : s.hops.length ≤ 5
  ts : 0 ≤ s.ts ∧ s.ts ≤ 49
  be : 0 ≤ s.beta ∧ s.beta ≤ 999999
  hop : ∀ h ∈ s.hops, (0 ≤ h.asn ∧ h.asn ≤ 7) ∧ (0 ≤ h.ing ∧ h.ing ≤ 6) ∧ (0 ≤ h.eg ∧ h.eg ≤ 6) ∧ (0 ≤ h.ex ∧ h.ex ≤ 1000000) ∧ (0 ≤ h.mac ∧ h.mac ≤ 2147483646)
end Go.Proofs.Ytmiclkgkfkcnoaa

/- The words of this part of the program (zi). -/
namespace Go.Proofs.Ytmiclkgkfkcnoaa
open Go.RowKit
set_option linter.unusedSimpArgs false
set_option linter.unusedVariables false
set_option maxRecDepth 100000
end Go.Proofs.Ytmiclkgkfkcnoaa

/- The words of this part of the program (zk). -/
namespace Go.Proofs.Ytmiclkgkfkcnoaa
open Go.RowKit
set_option linter.unusedSimpArgs false
set_option linter.unusedVariables false
set_option maxRecDepth 100000
end Go.Proofs.Ytmiclkgkfkcnoaa

/- The words of this part of the program (zm). -/
namespace Go.Proofs.Ytmiclkgkfkcnoaa
open Go.RowKit
set_option linter.unusedSimpArgs false
set_option linter.unusedVariables false
set_option maxRecDepth 100000
/-! the policies' law -/
theorem eq_pol : AggEq Try.prog 53 4 := aggEq_of (by kernel_rfl)

end Go.Proofs.Ytmiclkgkfkcnoaa

/- The words of this part of the program (zn). -/
namespace Go.Proofs.Ytmiclkgkfkcnoaa
open Go.RowKit
set_option linter.unusedSimpArgs false
set_option linter.unusedVariables false
set_option maxRecDepth 100000
end Go.Proofs.Ytmiclkgkfkcnoaa

/- The words of this part of the program (zo). -/
namespace Go.Proofs.Ytmiclkgkfkcnoaa
open Go.RowKit
set_option linter.unusedSimpArgs false
set_option linter.unusedVariables false
set_option maxRecDepth 100000
end Go.Proofs.Ytmiclkgkfkcnoaa

/- The words of this part of the program (zq). -/
namespace Go.Proofs.Ytmiclkgkfkcnoaa
open Go.RowKit
set_option linter.unusedSimpArgs false
set_option linter.unusedVariables false
set_option maxRecDepth 100000
end Go.Proofs.Ytmiclkgkfkcnoaa

/- The words of this part of the program (zr). -/
namespace Go.Proofs.Ytmiclkgkfkcnoaa
open Go.RowKit
set_option linter.unusedSimpArgs false
set_option linter.unusedVariables false
set_option maxRecDepth 100000
def dropE (l : List Bc) (now : Int) : List Bc := l.filter fun b => decide (now ≤ leastEx b.seg.hops)
theorem dropE_step (l : List Bc) (now : Int) (k : Nat) (h : k < l.length) : dropE (l.take (k + 1)) now = dropE (l.take k) now ++ (if now ≤ leastEx l[k].seg.hops then [l[k]] else []) := by
  rw [List.take_succ_eq_append_getElem h, dropE, dropE, List.filter_append]
  congr 1
  simp only [List.filter_cons, List.filter_nil, decide_eq_true_eq]
theorem dropE_len (l : List Bc) (now : Int) : (dropE l now).length ≤ l.length := List.length_filter_le _ _
end Go.Proofs.Ytmiclkgkfkcnoaa

/- The words of this part of the program (zs). -/
namespace Go.Proofs.Ytmiclkgkfkcnoaa
open Go.RowKit
set_option linter.unusedSimpArgs false
set_option linter.unusedVariables false
set_option maxRecDepth 100000
end Go.Proofs.Ytmiclkgkfkcnoaa

/- The words of this part of the program (zt). -/
namespace Go.Proofs.Ytmiclkgkfkcnoaa
open Go.RowKit
set_option linter.unusedSimpArgs false
set_option linter.unusedVariables false
set_option maxRecDepth 100000
end Go.Proofs.Ytmiclkgkfkcnoaa

/- The words of this part of the program (zu). -/
namespace Go.Proofs.Ytmiclkgkfkcnoaa
open Go.RowKit
set_option linter.unusedSimpArgs false
set_option linter.unusedVariables false
set_option maxRecDepth 100000
/-! a beacon is stored -/

end Go.Proofs.Ytmiclkgkfkcnoaa

/- The words of this part of the program (zv). -/
namespace Go.Proofs.Ytmiclkgkfkcnoaa
open Go.RowKit
set_option linter.unusedSimpArgs false
set_option linter.unusedVariables false
set_option maxRecDepth 100000
/-! the draws of stores -/
structure Bl (n m : Nat) (l : List Bc) : Prop where
  len : l.length ≤ n
  hop : ∀ b ∈ l, b.seg.hops.length ≤ m
end Go.Proofs.Ytmiclkgkfkcnoaa

/- The words of this part of the program (zw). -/
namespace Go.Proofs.Ytmiclkgkfkcnoaa
open Go.RowKit
set_option linter.unusedSimpArgs false
set_option linter.unusedVariables false
set_option maxRecDepth 100000
/-! the laws of stores -/

end Go.Proofs.Ytmiclkgkfkcnoaa

/- The words of this part of the program (zx). -/
namespace Go.Proofs.Ytmiclkgkfkcnoaa
open Go.RowKit
set_option linter.unusedSimpArgs false
set_option linter.unusedVariables false
set_option maxRecDepth 100000
/-! beacons whose hops lie beside the state -/
theorem opL_m {P : Program} {n : Nat} {σ : Slots} {M : Tab} {S : Side} {l : List Oper} {i : Nat} {o : Oper} {K : Slots → Tab → Side → Prop} (ho : l[i]? = some o) (hg : o.guard = none) (h : ∀ KT : Slots → Tab → Prop, (∀ σ' M', K σ' M' S → KT σ' M') → aOps P n l.toArray [o] σ M KT) : opF P n l.toArray i σ M S K :=
  opF_m (by simpa using ho) hg h
theorem opL_s {P : Program} {n : Nat} {σ : Slots} {M : Tab} {S : Side} {l : List Oper} {i : Nat} {o : Oper} {K : Slots → Tab → Side → Prop} (ho : l[i]? = some o) (hg : o.guard = none) (h : Sp P n o σ M S K) : opF P n l.toArray i σ M S K :=
  opF_s (by simpa using ho) hg h
def vRow (g : RowG) (b : Bc) : List D := [.int .i64 b.ing, .int .i64 b.seg.ts, .int .i64 b.seg.beta, .lv g b.seg.hops.length]
def rowsV (gs : List RowG) (bs : List Bc) : List (List D) := List.zipWith vRow gs bs
def nest (gs : List RowG) (bs : List Bc) : Side := List.zipWith (fun g b => (g, b.seg.hops.map hopRow)) gs bs
theorem rowsV_len {gs : List RowG} {bs : List Bc} (h : gs.length = bs.length) : (rowsV gs bs).length = bs.length := by simp [rowsV, h]
theorem rowsV_app {gs : List RowG} {bs : List Bc} (h : gs.length = bs.length) (gs' : List RowG) (bs' : List Bc) : rowsV (gs ++ gs') (bs ++ bs') = rowsV gs bs ++ rowsV gs' bs' := List.zipWith_append h
theorem nest_app {gs : List RowG} {bs : List Bc} (h : gs.length = bs.length) (gs' : List RowG) (bs' : List Bc) : nest (gs ++ gs') (bs ++ bs') = nest gs bs ++ nest gs' bs' := List.zipWith_append h
theorem rowsV_flat : ∀ (gs : List RowG) (bs : List Bc), FlatRows (rowsV gs bs)
  | [], _ => by intro r hr; simp [rowsV] at hr
  | _ :: _, [] => by intro r hr; simp [rowsV] at hr
  | g :: gs, b :: bs => by
    intro r hr
    simp only [rowsV, List.zipWith_cons_cons, List.mem_cons] at hr
    rcases hr with rfl | hr
    · intro d hd
      simp only [vRow, List.mem_cons, List.not_mem_nil, or_false] at hd
      rcases hd with rfl | rfl | rfl | rfl <;> rfl
    · exact rowsV_flat gs bs r hr
theorem rowLen_rowsV : ∀ (gs : List RowG) (bs : List Bc), RowLen (rowsV gs bs) 4
  | [], _ => by intro r hr; simp [rowsV] at hr
  | _ :: _, [] => by intro r hr; simp [rowsV] at hr
  | g :: gs, b :: bs => by
    intro r hr
    simp only [rowsV, List.zipWith_cons_cons, List.mem_cons] at hr
    rcases hr with rfl | hr
    · rfl
    · exact rowLen_rowsV gs bs r hr
theorem nest_fst : ∀ (gs : List RowG) (bs : List Bc), gs.length = bs.length → (nest gs bs).map Prod.fst = gs
  | [], [], _ => rfl
  | g :: gs, b :: bs, h => by
    simp only [nest, List.zipWith_cons_cons, List.map_cons]
    exact congrArg (g :: ·) (nest_fst gs bs (by simpa using h))
  | [], _ :: _, h => by simp at h
  | _ :: _, [], h => by simp at h
theorem opn_bcs {S : Side} : ∀ (gs : List RowG) (bs : List Bc), gs.length = bs.length → (∀ p ∈ nest gs bs, p ∈ S) → OpnR S (rowsV gs bs) (bs.map bcRow)
  | [], [], _, _ => trivial
  | g :: gs, b :: bs, h, hm => by
    have h1 := opn_rows (S := S) (g := g) (rows := b.seg.hops.map hopRow) (hm _ (by simp [nest])) (OpnR.refl S _)
    rw [List.length_map] at h1
    exact ⟨⟨opn_refl _ _, opn_refl _ _, opn_refl _ _, h1, trivial⟩, opn_bcs gs bs (by simpa using h) (fun p hp => hm p (by simp only [nest, List.zipWith_cons_cons, List.mem_cons]; exact .inr hp))⟩
  | [], _ :: _, h, _ => by simp at h
  | _ :: _, [], h, _ => by simp at h
def bun (g : RowG) (gs : List RowG) (bs : List Bc) : Side := (g, rowsV gs bs) :: nest gs bs
def Bun (bs : List Bc) (S : Side) (r : D) : Prop := ∃ g gs, gs.length = bs.length ∧ S = bun g gs bs ∧ r = .lv g bs.length
theorem opn_bun {S : Side} {g : RowG} {gs : List RowG} {bs : List Bc} (h : gs.length = bs.length) (hs : ∀ p ∈ bun g gs bs, p ∈ S) : Opn S (.lv g bs.length) (.sl (bs.map bcRow)) := by
  have h1 := opn_rows (S := S) (g := g) (rows := rowsV gs bs) (hs _ (by simp [bun])) (opn_bcs gs bs h fun p hp => hs p (by simp [bun, hp]))
  rwa [rowsV_len h] at h1
/-! what marking makes of beacons -/
def mk1 (b : Bc) (k : Int) : Bc := ⟨k, ⟨k + 1, k + 1 + 1, marks mkH 5 (k + 1 + 1 + 1) b.seg.hops.length⟩⟩
def endB (bs : List Bc) (k : Int) : Int := k + 3 * bs.length + 5 * szB bs
def markB : List Bc → Int → List Bc
  | [], _ => []
  | b :: bs, k => mk1 b k :: markB bs (k + 3 + 5 * b.seg.hops.length)
theorem markB_len : ∀ (bs : List Bc) (k : Int), (markB bs k).length = bs.length
  | [], _ => rfl
  | b :: bs, k => by simp [markB, markB_len bs]
theorem endB_cons (b : Bc) (bs : List Bc) (k : Int) : endB (b :: bs) k = endB bs (k + 3 + 5 * b.seg.hops.length) := by
  simp only [endB, szB, List.length_cons, List.map_cons, List.sum_cons]
  omega
theorem endB_snoc (b : Bc) (bs : List Bc) (k : Int) : endB (bs ++ [b]) k = endB bs k + 3 + 5 * b.seg.hops.length := by
  simp only [endB, szB, List.length_append, List.length_cons, List.length_nil, List.map_append, List.map_cons, List.map_nil, List.sum_append, List.sum_cons, List.sum_nil]
  omega
theorem markB_snoc (b : Bc) : ∀ (bs : List Bc) (k : Int), markB (bs ++ [b]) k = markB bs k ++ [mk1 b (endB bs k)]
  | [], k => by simp [markB, endB, szB]
  | c :: bs, k => by
    simp only [List.cons_append, markB, markB_snoc b bs, endB_cons]
theorem endB_le {bs : List Bc} {k : Int} : k ≤ endB bs k := by simp only [endB]; omega
theorem endB_take {bs : List Bc} {k : Int} (j : Nat) : endB (bs.take j) k ≤ endB bs k := by
  have h1 := szB_take bs j
  have h2 : (bs.take j).length ≤ bs.length := by rw [List.length_take]; exact Nat.min_le_right _ _
  simp only [endB]
  omega
theorem endB_step {bs : List Bc} {k : Int} {j : Nat} (h : j < bs.length) : endB (bs.take (j + 1)) k = endB (bs.take j) k + 3 + 5 * bs[j].seg.hops.length := by
  rw [List.take_succ_eq_append_getElem h, endB_snoc]
theorem markB_get : ∀ (bs : List Bc) (k : Int) (j : Nat) (h : j < bs.length), ((markB bs k).map bcRow).getD j [] = bcRow (mk1 bs[j] (endB (bs.take j) k))
  | b :: bs, k, 0, h => by simp [markB, endB, szB]
  | b :: bs, k, j + 1, h => by
    have := markB_get bs (k + 3 + 5 * b.seg.hops.length) j (by simpa using h)
    simp only [markB, List.map_cons, List.getD_cons_succ, List.getElem_cons_succ, List.take_succ_cons, endB_cons]
    exact this
def mixBc (bs : List Bc) (k : Int) (j : Nat) : List Bc := markB (bs.take j) k ++ bs.drop j
theorem mixBc_len {bs : List Bc} {k : Int} {j : Nat} (h : j ≤ bs.length) : (mixBc bs k j).length = bs.length := by
  simp only [mixBc, List.length_append, markB_len, List.length_take, List.length_drop]; omega
theorem mixBc_at {bs : List Bc} {k : Int} {j : Nat} (h : j < bs.length) {gs : List RowG} (hg : gs.length = bs.length) :
    ∃ (R1 R2 : List (List D)) (N1 N2 : Side) (g : RowG), R1.length = j ∧ R1.length + 1 + R2.length = bs.length ∧ rowsV gs (mixBc bs k j) = R1 ++ vRow g bs[j] :: R2 ∧ rowsV gs (mixBc bs k (j + 1)) = R1 ++ vRow g (mk1 bs[j] (endB (bs.take j) k)) :: R2 ∧
      nest gs (mixBc bs k j) = N1 ++ [(g, bs[j].seg.hops.map hopRow)] ++ N2 ∧ nest gs (mixBc bs k (j + 1)) = N1 ++ [(g, (marks mkH 5 (endB (bs.take j) k + 1 + 1 + 1) bs[j].seg.hops.length).map hopRow)] ++ N2 := by
  have hgj : j < gs.length := by omega
  have e1 : gs = gs.take j ++ gs[j] :: gs.drop (j + 1) := by rw [← List.drop_eq_getElem_cons hgj, List.take_append_drop]
  have e2 : mixBc bs k j = markB (bs.take j) k ++ bs[j] :: bs.drop (j + 1) := by rw [mixBc, ← List.drop_eq_getElem_cons h]
  have e3 : mixBc bs k (j + 1) = markB (bs.take j) k ++ mk1 bs[j] (endB (bs.take j) k) :: bs.drop (j + 1) := by
    rw [mixBc, List.take_succ_eq_append_getElem h, markB_snoc, List.append_assoc]; rfl
  have hl : (gs.take j).length = (markB (bs.take j) k).length := by rw [markB_len, List.length_take, List.length_take]; omega
  have hl2 : (gs.drop (j + 1)).length = (bs.drop (j + 1)).length := by rw [List.length_drop, List.length_drop]; omega
  refine ⟨rowsV (gs.take j) (markB (bs.take j) k), rowsV (gs.drop (j + 1)) (bs.drop (j + 1)), nest (gs.take j) (markB (bs.take j) k), nest (gs.drop (j + 1)) (bs.drop (j + 1)), gs[j], ?_, ?_, ?_, ?_, ?_, ?_⟩
  · rw [rowsV_len hl, markB_len, List.length_take]; omega
  · rw [rowsV_len hl, rowsV_len hl2, markB_len, List.length_take, List.length_drop]; omega
  · conv => lhs; rw [e1, e2]
    rw [rowsV_app hl]; rfl
  · conv => lhs; rw [e1, e3]
    rw [rowsV_app hl]; rfl
  · conv => lhs; rw [e1, e2]
    rw [nest_app hl, List.append_assoc]; rfl
  · conv => lhs; rw [e1, e3]
    rw [nest_app hl, List.append_assoc]; rfl
theorem mid_get {α : Type} {R1 R2 : List α} {j : Nat} (h : R1.length = j) (r z : α) : (R1 ++ r :: R2).getD j z = r := by subst h; simp [List.getD]
theorem mid_set {α : Type} {R1 R2 : List α} {j : Nat} (h : R1.length = j) (r r' : α) : (R1 ++ r :: R2).set j r' = R1 ++ r' :: R2 := by subst h; simp
theorem mid_len {α : Type} {R1 R2 : List α} {m : Nat} (h : R1.length + 1 + R2.length = m) (r : α) : (R1 ++ r :: R2).length = m := by subst h; simp; omega
theorem szB_drop (l : List Bc) (now : Int) : szB (dropE l now) ≤ szB l := by
  induction l with
  | nil => simp [dropE]
  | cons b l ih =>
    simp only [dropE, List.filter_cons] at ih ⊢
    split
    · simp only [szB, List.map_cons, List.sum_cons] at ih ⊢; omega
    · simp only [szB, List.map_cons, List.sum_cons] at ih ⊢; omega

end Go.Proofs.Ytmiclkgkfkcnoaa
