/- The words of this part of the program (a). -/
import Derived.Test.YtelolknpcmjdeaaMt
import Derived.Test.YtelolknpcmjdeaaProg
namespace Go.Proofs.Ytelolknpcmjdeaa
open Go.RowKit
set_option linter.unusedSimpArgs false
set_option linter.unusedVariables false
set_option maxRecDepth 100000
theorem ti3 : tI Try.prog 3 = ⟨.int .i64, 1, [.int .i64 0]⟩ := by kernel_rfl
theorem ct3 : ctOf Try.prog 8 3 = some [.int .i64] := by kernel_rfl
theorem ti4 : tI Try.prog 4 = ⟨.bool, 1, [.bool false]⟩ := by kernel_rfl
theorem ct4 : ctOf Try.prog 8 4 = some [.bool] := by kernel_rfl
theorem ti5 : tI Try.prog 5 = ⟨.int .u8, 1, [.int .u8 0]⟩ := by kernel_rfl
theorem ct5 : ctOf Try.prog 8 5 = some [.int .u8] := by kernel_rfl
theorem ti9 : tI Try.prog 9 = ⟨.str, 1, [.str []]⟩ := by kernel_rfl
theorem ct9 : ctOf Try.prog 8 9 = some [.str] := by kernel_rfl
theorem ti22 : tI Try.prog 22 = ⟨.slice 160 3 24 [.int .i64 0, .bool false, .int .i64 0], 1, [.nl]⟩ := by kernel_rfl
theorem ct22 : ctOf Try.prog 8 22 = some [.slice [.int .i64, .bool, .int .i64]] := by kernel_rfl
theorem ti23 : tI Try.prog 23 = ⟨.slice 162 5 40 [.int .i64 0, .int .i64 0, .int .i64 0, .int .i64 0, .int .i64 0], 1, [.nl]⟩ := by kernel_rfl
theorem ct23 : ctOf Try.prog 8 23 = some [.slice [.int .i64, .int .i64, .int .i64, .int .i64, .int .i64]] := by kernel_rfl
theorem ti25 : tI Try.prog 25 = ⟨.struct [(0, 1), (1, 1)], 2, [.nl, .nl]⟩ := by kernel_rfl
theorem ct25 : ctOf Try.prog 8 25 = some [.slice [.int .i64, .bool, .int .i64], .slice [.int .i64, .int .i64, .int .i64, .int .i64, .int .i64]] := by kernel_rfl
theorem ti26 : tI Try.prog 26 = ⟨.slice 164 5 40 [.int .i64 0, .int .i64 0, .int .i64 0, .int .i64 0, .int .i64 0], 1, [.nl]⟩ := by kernel_rfl
theorem ct26 : ctOf Try.prog 8 26 = some [.slice [.int .i64, .int .i64, .int .i64, .int .i64, .int .i64]] := by kernel_rfl
theorem ti28 : tI Try.prog 28 = ⟨.struct [(0, 1), (1, 1), (2, 1)], 3, [.int .i64 0, .int .i64 0, .nl]⟩ := by kernel_rfl
theorem ct28 : ctOf Try.prog 8 28 = some [.int .i64, .int .i64, .slice [.int .i64, .int .i64, .int .i64, .int .i64, .int .i64]] := by kernel_rfl
theorem ti32 : tI Try.prog 32 = ⟨.slice 81 3 24 [.int .i64 0, .bool false, .int .i64 0], 1, [.nl]⟩ := by kernel_rfl
theorem ct32 : ctOf Try.prog 8 32 = some [.slice [.int .i64, .bool, .int .i64]] := by kernel_rfl
theorem ti33 : tI Try.prog 33 = ⟨.slice 153 5 40 [.int .i64 0, .int .i64 0, .int .i64 0, .int .i64 0, .int .i64 0], 1, [.nl]⟩ := by kernel_rfl
theorem ct33 : ctOf Try.prog 8 33 = some [.slice [.int .i64, .int .i64, .int .i64, .int .i64, .int .i64]] := by kernel_rfl
theorem ti35 : tI Try.prog 35 = ⟨.struct [(0, 1), (1, 1)], 2, [.nl, .nl]⟩ := by kernel_rfl
theorem ct35 : ctOf Try.prog 8 35 = some [.slice [.int .i64, .bool, .int .i64], .slice [.int .i64, .int .i64, .int .i64, .int .i64, .int .i64]] := by kernel_rfl
theorem ti37 : tI Try.prog 37 = ⟨.slice 61 5 40 [.int .i64 0, .int .i64 0, .int .i64 0, .int .i64 0, .int .i64 0], 1, [.nl]⟩ := by kernel_rfl
theorem ct37 : ctOf Try.prog 8 37 = some [.slice [.int .i64, .int .i64, .int .i64, .int .i64, .int .i64]] := by kernel_rfl
theorem ti39 : tI Try.prog 39 = ⟨.struct [(0, 1), (1, 1), (2, 1)], 3, [.int .i64 0, .int .i64 0, .nl]⟩ := by kernel_rfl
theorem ct39 : ctOf Try.prog 8 39 = some [.int .i64, .int .i64, .slice [.int .i64, .int .i64, .int .i64, .int .i64, .int .i64]] := by kernel_rfl
theorem ti48 : tI Try.prog 48 = ⟨.struct [(0, 1), (1, 1), (2, 1), (3, 1)], 4, [.int .i64 0, .int .i64 0, .int .i64 0, .int .i64 0]⟩ := by kernel_rfl
theorem ct48 : ctOf Try.prog 8 48 = some [.int .i64, .int .i64, .int .i64, .int .i64] := by kernel_rfl
theorem ti51 : tI Try.prog 51 = ⟨.struct [(0, 1), (1, 1), (2, 1), (3, 1)], 4, [.int .i64 0, .int .i64 0, .int .i64 0, .int .i64 0]⟩ := by kernel_rfl
theorem ct51 : ctOf Try.prog 8 51 = some [.int .i64, .int .i64, .int .i64, .int .i64] := by kernel_rfl
theorem ti58 : tI Try.prog 58 = ⟨.slice 5 1 1 [.int .u8 0], 1, [.nl]⟩ := by kernel_rfl
theorem ct58 : ctOf Try.prog 8 58 = some [.slice [.int .u8]] := by kernel_rfl
theorem ti61 : tI Try.prog 61 = ⟨.struct [(0, 1), (1, 1), (2, 1), (3, 1), (4, 1)], 5, [.int .i64 0, .int .i64 0, .int .i64 0, .int .i64 0, .int .i64 0]⟩ := by kernel_rfl
theorem ct61 : ctOf Try.prog 8 61 = some [.int .i64, .int .i64, .int .i64, .int .i64, .int .i64] := by kernel_rfl
theorem ti81 : tI Try.prog 81 = ⟨.struct [(0, 1), (1, 1), (2, 1)], 3, [.int .i64 0, .bool false, .int .i64 0]⟩ := by kernel_rfl
theorem ct81 : ctOf Try.prog 8 81 = some [.int .i64, .bool, .int .i64] := by kernel_rfl
theorem ti86 : tI Try.prog 86 = ⟨.slice 3 1 8 [.int .i64 0], 1, [.nl]⟩ := by kernel_rfl
theorem ct86 : ctOf Try.prog 8 86 = some [.slice [.int .i64]] := by kernel_rfl
theorem ti105 : tI Try.prog 105 = ⟨.slice 51 4 32 [.int .i64 0, .int .i64 0, .int .i64 0, .int .i64 0], 1, [.nl]⟩ := by kernel_rfl
theorem ct105 : ctOf Try.prog 8 105 = some [.slice [.int .i64, .int .i64, .int .i64, .int .i64]] := by kernel_rfl
theorem ti150 : tI Try.prog 150 = ⟨.int .u64, 1, [.int .u64 0]⟩ := by kernel_rfl
theorem ct150 : ctOf Try.prog 8 150 = some [.int .u64] := by kernel_rfl
theorem ti153 : tI Try.prog 153 = ⟨.struct [(0, 1), (1, 1), (2, 1), (3, 1), (4, 1)], 5, [.int .i64 0, .int .i64 0, .int .i64 0, .int .i64 0, .int .i64 0]⟩ := by kernel_rfl
theorem ct153 : ctOf Try.prog 8 153 = some [.int .i64, .int .i64, .int .i64, .int .i64, .int .i64] := by kernel_rfl
theorem ti160 : tI Try.prog 160 = ⟨.struct [(0, 1), (1, 1), (2, 1)], 3, [.int .i64 0, .bool false, .int .i64 0]⟩ := by kernel_rfl
theorem ct160 : ctOf Try.prog 8 160 = some [.int .i64, .bool, .int .i64] := by kernel_rfl
theorem ti162 : tI Try.prog 162 = ⟨.struct [(0, 1), (1, 1), (2, 1), (3, 1), (4, 1)], 5, [.int .i64 0, .int .i64 0, .int .i64 0, .int .i64 0, .int .i64 0]⟩ := by kernel_rfl
theorem ct162 : ctOf Try.prog 8 162 = some [.int .i64, .int .i64, .int .i64, .int .i64, .int .i64] := by kernel_rfl
theorem ti164 : tI Try.prog 164 = ⟨.struct [(0, 1), (1, 1), (2, 1), (3, 1), (4, 1)], 5, [.int .i64 0, .int .i64 0, .int .i64 0, .int .i64 0, .int .i64 0]⟩ := by kernel_rfl
theorem ct164 : ctOf Try.prog 8 164 = some [.int .i64, .int .i64, .int .i64, .int .i64, .int .i64] := by kernel_rfl
theorem ti170 : tI Try.prog 170 = ⟨.struct [(0, 1), (1, 1), (2, 1)], 3, [.nl, .int .i64 0, .int .i64 0]⟩ := by kernel_rfl
theorem ct170 : ctOf Try.prog 8 170 = some [.slice [.int .u8], .int .i64, .int .i64] := by kernel_rfl
theorem ti178 : tI Try.prog 178 = ⟨.slice 9 1 16 [.str []], 1, [.nl]⟩ := by kernel_rfl
theorem ct178 : ctOf Try.prog 8 178 = some [.slice [.str]] := by kernel_rfl
structure Hp where
  asn : Int
  ing : Int
  eg : Int
  ex : Int
  mac : Int
  deriving DecidableEq
structure Pl where
  ml : Int
  den : Int
  clo : Int
  life : Int
  deriving DecidableEq
abbrev hopRow (h : Hp) : List D := [.int .i64 h.asn, .int .i64 h.ing, .int .i64 h.eg, .int .i64 h.ex, .int .i64 h.mac]
abbrev polRow (p : Pl) : List D := [.int .i64 p.ml, .int .i64 p.den, .int .i64 p.clo, .int .i64 p.life]
structure Sg where
  ts : Int
  beta : Int
  hops : List Hp
  deriving DecidableEq
abbrev segRow (s : Sg) : List D := [.int .i64 s.ts, .int .i64 s.beta, .sl (s.hops.map hopRow)]

theorem isHop {x : List D} (h : IsL [.int .i64, .int .i64, .int .i64, .int .i64, .int .i64] x) : ∃ p : Hp, x = hopRow p := by
  obtain ⟨a, b, c, d, e, rfl⟩ := ints5 h
  exact ⟨⟨a, b, c, d, e⟩, rfl⟩
theorem isPol {x : List D} (h : IsL [.int .i64, .int .i64, .int .i64, .int .i64] x) : ∃ p : Pl, x = polRow p := by
  obtain ⟨a, b, c, d, rfl⟩ := ints4 h
  exact ⟨⟨a, b, c, d⟩, rfl⟩
theorem isRows {α : Type} {f : α → List D} {es : List CT} (hf : ∀ x, IsL es x → ∃ a, x = f a) {x : D} (h : IsC (.slice es) x) : ∃ l : List α, x = .sl (l.map f) ∧ l.length ≤ maxLen := by
  simp only [IsC] at h
  obtain ⟨rows, rfl, hl, hr⟩ := h
  have : ∃ l : List α, rows = l.map f := by
    clear hl
    induction rows with
    | nil => exact ⟨[], rfl⟩
    | cons r rs ih =>
      obtain ⟨l, hl⟩ := ih fun r hr' => hr r (by simp [hr'])
      obtain ⟨a, ha⟩ := hf r (hr r (by simp))
      exact ⟨a :: l, by simp [ha, hl]⟩
  obtain ⟨l, rfl⟩ := this
  exact ⟨l, rfl, by simpa using hl⟩
theorem isSeg {x : List D} (h : IsL [.int .i64, .int .i64, .slice [.int .i64, .int .i64, .int .i64, .int .i64, .int .i64]] x) : ∃ s : Sg, x = segRow s ∧ s.hops.length ≤ maxLen := by
  simp only [IsL] at h
  obtain ⟨_, _, rfl, h1, _, _, rfl, h2, _, _, rfl, h3, rfl⟩ := h
  obtain ⟨a, rfl⟩ := isInt h1
  obtain ⟨b, rfl⟩ := isInt h2
  obtain ⟨l, rfl, hl⟩ := isRows (fun _ => isHop) h3
  exact ⟨⟨a, b, l⟩, rfl, hl⟩

theorem wr64 {a : Int} (h : -9223372036854775808 ≤ a) (h' : a < 9223372036854775808) : IntKind.i64.wrap a = a := by
  rw [IntKind.wrap_i64]; omega
theorem wrapS {k : Nat} (h : k < 4611686018427387904) : IntKind.i64.wrap ((k : Int) + 1) = (k : Int) + 1 := wr64 (by omega) (by omega)
theorem take_step {α : Type} {l m : List α} {k : Nat} (h : k < l.length) (h' : k < m.length) (ht : l.take k = m.take k) (he : l[k] = m[k]) : l.take (k + 1) = m.take (k + 1) := by
  rw [List.take_succ_eq_append_getElem h, List.take_succ_eq_append_getElem h', ht, he]
/-- rows that are filled from the left -/
def fillR {α : Type} (f : α → List D) (z : List D) (l : List α) (k : Nat) : List (List D) := (l.take k).map f ++ List.replicate (l.length - k) z
section
variable {α : Type} {f : α → List D} {z : List D} {l : List α} {k : Nat}
theorem fillR_len (h : k ≤ l.length) : (fillR f z l k).length = l.length := by simp [fillR]; omega
theorem fillR_get (h : k < l.length) : (fillR f z l k).getD k [] = z := by
  simp only [fillR, List.getD, List.getElem?_append, List.length_map, List.length_take]
  rw [if_neg (by omega)]
  simp [show k - min k l.length = 0 by omega, List.getElem?_replicate, show 0 < l.length - k by omega]
theorem fillR_set (h : k < l.length) : (fillR f z l k).set k (f l[k]) = fillR f z l (k + 1) := by
  simp only [fillR]
  rw [List.set_append_right _ _ (by simp; omega)]
  have e1 : k - ((l.take k).map f).length = 0 := by simp; omega
  have e2 : l.length - k = (l.length - (k + 1)) + 1 := by omega
  rw [e1, e2, List.replicate_succ, List.set_cons_zero, List.take_succ_eq_append_getElem h, List.map_append, List.append_assoc]
  rfl
theorem fillR_zero : fillR f z l 0 = List.replicate l.length z := by simp [fillR]
theorem fillR_all : fillR f z l l.length = l.map f := by simp [fillR]
end
theorem getD_map_lt {α : Type} {f : α → List D} {l : List α} {k : Nat} (h : k < l.length) : (l.map f).getD k [] = f l[k] := by simp [List.getD, h]

theorem eq_hop : AggEq Try.prog 61 5 := aggEq_of (by kernel_rfl)

def inR (a b c : Int) : Bool := decide (b ≤ a) && decide (a ≤ c)

def firstAS (s : Sg) : Int := match s.hops with | [] => -1 | h :: _ => h.asn
def lastAS (s : Sg) : Int := if h : 0 < s.hops.length then s.hops[s.hops.length - 1].asn else -1
def isTerm (s : Sg) : Bool := if h : 0 < s.hops.length then s.hops[s.hops.length - 1].eg == 0 else false
theorem wrapP {n : Nat} (h : 0 < n) (h' : n < 4611686018427387904) : IntKind.i64.wrap ((n : Int) - 1) = ((n - 1 : Nat) : Int) := by
  rw [wr64 (by omega) (by omega)]; omega

end Go.Proofs.Ytelolknpcmjdeaa
