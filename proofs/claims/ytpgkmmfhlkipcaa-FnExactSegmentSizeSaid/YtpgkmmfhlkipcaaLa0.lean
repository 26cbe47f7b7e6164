/- The words of this part of the program (a). -/
import Derived.Test.YtpgkmmfhlkipcaaMt
import Derived.Test.YtpgkmmfhlkipcaaProg
namespace Go.Proofs.Ytpgkmmfhlkipcaa
open Go.RowKit
set_option linter.unusedSimpArgs false
set_option linter.unusedVariables false
set_option maxRecDepth 100000
theorem ti3 : tI Try.prog 3 = ⟨.int .i64, 1, [.int .i64 0]⟩ := by kernel_rfl
theorem ct3 : ctOf Try.prog 8 3 = some [.int .i64] := by kernel_rfl
theorem ti4 : tI Try.prog 4 = ⟨.bool, 1, [.bool false]⟩ := by kernel_rfl
theorem ct4 : ctOf Try.prog 8 4 = some [.bool] := by kernel_rfl
theorem ti5 : tI Try.prog 5 = ⟨.int .u8, 1, [.int .u8 0]⟩ := by kernel_rfl
theorem ct5 : ctOf Try.prog 8 5 = some [.int .u8] := by kernel_rfl
theorem ti9 : tI Try.prog 9 = ⟨.str, 1, [.str []]⟩ := by kernel_rfl
theorem ct9 : ctOf Try.prog 8 9 = some [.str] := by kernel_rfl
theorem ti23 : tI Try.prog 23 = ⟨.struct [(0, 1), (1, 1), (2, 1), (3, 1)], 4, [.int .i64 0, .int .i64 0, .int .i64 0, .int .i64 0]⟩ := by kernel_rfl
theorem ct23 : ctOf Try.prog 8 23 = some [.int .i64, .int .i64, .int .i64, .int .i64] := by kernel_rfl
theorem ti24 : tI Try.prog 24 = ⟨.slice 79 5 40 [.int .i64 0, .int .i64 0, .int .i64 0, .int .i64 0, .int .i64 0], 1, [.nl]⟩ := by kernel_rfl
theorem ct24 : ctOf Try.prog 8 24 = some [.slice [.int .i64, .int .i64, .int .i64, .int .i64, .int .i64]] := by kernel_rfl
theorem ti26 : tI Try.prog 26 = ⟨.struct [(0, 1), (1, 1), (2, 1)], 3, [.int .i64 0, .int .i64 0, .nl]⟩ := by kernel_rfl
theorem ct26 : ctOf Try.prog 8 26 = some [.int .i64, .int .i64, .slice [.int .i64, .int .i64, .int .i64, .int .i64, .int .i64]] := by kernel_rfl
theorem ti29 : tI Try.prog 29 = ⟨.struct [(0, 1), (1, 1), (2, 1), (3, 1)], 4, [.int .i64 0, .int .i64 0, .int .i64 0, .int .i64 0]⟩ := by kernel_rfl
theorem ct29 : ctOf Try.prog 8 29 = some [.int .i64, .int .i64, .int .i64, .int .i64] := by kernel_rfl
theorem ti31 : tI Try.prog 31 = ⟨.slice 41 5 40 [.int .i64 0, .int .i64 0, .int .i64 0, .int .i64 0, .int .i64 0], 1, [.nl]⟩ := by kernel_rfl
theorem ct31 : ctOf Try.prog 8 31 = some [.slice [.int .i64, .int .i64, .int .i64, .int .i64, .int .i64]] := by kernel_rfl
theorem ti33 : tI Try.prog 33 = ⟨.struct [(0, 1), (1, 1), (2, 1)], 3, [.int .i64 0, .int .i64 0, .nl]⟩ := by kernel_rfl
theorem ct33 : ctOf Try.prog 8 33 = some [.int .i64, .int .i64, .slice [.int .i64, .int .i64, .int .i64, .int .i64, .int .i64]] := by kernel_rfl
theorem ti39 : tI Try.prog 39 = ⟨.slice 5 1 1 [.int .u8 0], 1, [.nl]⟩ := by kernel_rfl
theorem ct39 : ctOf Try.prog 8 39 = some [.slice [.int .u8]] := by kernel_rfl
theorem ti41 : tI Try.prog 41 = ⟨.struct [(0, 1), (1, 1), (2, 1), (3, 1), (4, 1)], 5, [.int .i64 0, .int .i64 0, .int .i64 0, .int .i64 0, .int .i64 0]⟩ := by kernel_rfl
theorem ct41 : ctOf Try.prog 8 41 = some [.int .i64, .int .i64, .int .i64, .int .i64, .int .i64] := by kernel_rfl
theorem ti52 : tI Try.prog 52 = ⟨.slice 3 1 8 [.int .i64 0], 1, [.nl]⟩ := by kernel_rfl
theorem ct52 : ctOf Try.prog 8 52 = some [.slice [.int .i64]] := by kernel_rfl
theorem ti59 : tI Try.prog 59 = ⟨.struct [(0, 1), (1, 3)], 4, [.int .i64 0, .int .i64 0, .int .i64 0, .nl]⟩ := by kernel_rfl
theorem ct59 : ctOf Try.prog 8 59 = some [.int .i64, .int .i64, .int .i64, .slice [.int .i64, .int .i64, .int .i64, .int .i64, .int .i64]] := by kernel_rfl
theorem ti63 : tI Try.prog 63 = ⟨.struct [(0, 1), (1, 3)], 4, [.int .i64 0, .int .i64 0, .int .i64 0, .nl]⟩ := by kernel_rfl
theorem ct63 : ctOf Try.prog 8 63 = some [.int .i64, .int .i64, .int .i64, .slice [.int .i64, .int .i64, .int .i64, .int .i64, .int .i64]] := by kernel_rfl
theorem ti66 : tI Try.prog 66 = ⟨.slice 59 4 48 [.int .i64 0, .int .i64 0, .int .i64 0, .nl], 1, [.nl]⟩ := by kernel_rfl
theorem ct66 : ctOf Try.prog 8 66 = some [.slice [.int .i64, .int .i64, .int .i64, .slice [.int .i64, .int .i64, .int .i64, .int .i64, .int .i64]]] := by kernel_rfl
theorem ti69 : tI Try.prog 69 = ⟨.slice 63 4 48 [.int .i64 0, .int .i64 0, .int .i64 0, .nl], 1, [.nl]⟩ := by kernel_rfl
theorem ct69 : ctOf Try.prog 8 69 = some [.slice [.int .i64, .int .i64, .int .i64, .slice [.int .i64, .int .i64, .int .i64, .int .i64, .int .i64]]] := by kernel_rfl
theorem ti75 : tI Try.prog 75 = ⟨.slice 124 3 24 [.int .i64 0, .bool false, .int .i64 0], 1, [.nl]⟩ := by kernel_rfl
theorem ct75 : ctOf Try.prog 8 75 = some [.slice [.int .i64, .bool, .int .i64]] := by kernel_rfl
theorem ti76 : tI Try.prog 76 = ⟨.slice 128 5 40 [.int .i64 0, .int .i64 0, .int .i64 0, .int .i64 0, .int .i64 0], 1, [.nl]⟩ := by kernel_rfl
theorem ct76 : ctOf Try.prog 8 76 = some [.slice [.int .i64, .int .i64, .int .i64, .int .i64, .int .i64]] := by kernel_rfl
theorem ti78 : tI Try.prog 78 = ⟨.struct [(0, 1), (1, 1)], 2, [.nl, .nl]⟩ := by kernel_rfl
theorem ct78 : ctOf Try.prog 8 78 = some [.slice [.int .i64, .bool, .int .i64], .slice [.int .i64, .int .i64, .int .i64, .int .i64, .int .i64]] := by kernel_rfl
theorem ti79 : tI Try.prog 79 = ⟨.struct [(0, 1), (1, 1), (2, 1), (3, 1), (4, 1)], 5, [.int .i64 0, .int .i64 0, .int .i64 0, .int .i64 0, .int .i64 0]⟩ := by kernel_rfl
theorem ct79 : ctOf Try.prog 8 79 = some [.int .i64, .int .i64, .int .i64, .int .i64, .int .i64] := by kernel_rfl
theorem ti82 : tI Try.prog 82 = ⟨.slice 110 3 24 [.int .i64 0, .bool false, .int .i64 0], 1, [.nl]⟩ := by kernel_rfl
theorem ct82 : ctOf Try.prog 8 82 = some [.slice [.int .i64, .bool, .int .i64]] := by kernel_rfl
theorem ti83 : tI Try.prog 83 = ⟨.slice 126 5 40 [.int .i64 0, .int .i64 0, .int .i64 0, .int .i64 0, .int .i64 0], 1, [.nl]⟩ := by kernel_rfl
theorem ct83 : ctOf Try.prog 8 83 = some [.slice [.int .i64, .int .i64, .int .i64, .int .i64, .int .i64]] := by kernel_rfl
theorem ti85 : tI Try.prog 85 = ⟨.struct [(0, 1), (1, 1)], 2, [.nl, .nl]⟩ := by kernel_rfl
theorem ct85 : ctOf Try.prog 8 85 = some [.slice [.int .i64, .bool, .int .i64], .slice [.int .i64, .int .i64, .int .i64, .int .i64, .int .i64]] := by kernel_rfl
theorem ti110 : tI Try.prog 110 = ⟨.struct [(0, 1), (1, 1), (2, 1)], 3, [.int .i64 0, .bool false, .int .i64 0]⟩ := by kernel_rfl
theorem ct110 : ctOf Try.prog 8 110 = some [.int .i64, .bool, .int .i64] := by kernel_rfl
theorem ti119 : tI Try.prog 119 = ⟨.int .u64, 1, [.int .u64 0]⟩ := by kernel_rfl
theorem ct119 : ctOf Try.prog 8 119 = some [.int .u64] := by kernel_rfl
theorem ti124 : tI Try.prog 124 = ⟨.struct [(0, 1), (1, 1), (2, 1)], 3, [.int .i64 0, .bool false, .int .i64 0]⟩ := by kernel_rfl
theorem ct124 : ctOf Try.prog 8 124 = some [.int .i64, .bool, .int .i64] := by kernel_rfl
theorem ti126 : tI Try.prog 126 = ⟨.struct [(0, 1), (1, 1), (2, 1), (3, 1), (4, 1)], 5, [.int .i64 0, .int .i64 0, .int .i64 0, .int .i64 0, .int .i64 0]⟩ := by kernel_rfl
theorem ct126 : ctOf Try.prog 8 126 = some [.int .i64, .int .i64, .int .i64, .int .i64, .int .i64] := by kernel_rfl
theorem ti128 : tI Try.prog 128 = ⟨.struct [(0, 1), (1, 1), (2, 1), (3, 1), (4, 1)], 5, [.int .i64 0, .int .i64 0, .int .i64 0, .int .i64 0, .int .i64 0]⟩ := by kernel_rfl
theorem ct128 : ctOf Try.prog 8 128 = some [.int .i64, .int .i64, .int .i64, .int .i64, .int .i64] := by kernel_rfl
structure Hp where
  asn : Int
  ing : Int
  eg : Int
  ex : Int
  mac : Int
  deriving DecidableEq
structure Pl where
  ml : Int
  den : Int
  clo : Int
  life : Int
  deriving DecidableEq
abbrev hopRow (h : Hp) : List D := [.int .i64 h.asn, .int .i64 h.ing, .int .i64 h.eg, .int .i64 h.ex, .int .i64 h.mac]
abbrev polRow (p : Pl) : List D := [.int .i64 p.ml, .int .i64 p.den, .int .i64 p.clo, .int .i64 p.life]
structure Sg where
  ts : Int
  beta : Int
  hops : List Hp
  deriving DecidableEq
abbrev segRow (s : Sg) : List D := [.int .i64 s.ts, .int .i64 s.beta, .sl (s.hops.map hopRow)]

theorem isHop {x : List D} (h : IsL [.int .i64, .int .i64, .int .i64, .int .i64, .int .i64] x) : ∃ p : Hp, x = hopRow p := by
  obtain ⟨a, b, c, d, e, rfl⟩ := ints5 h
  exact ⟨⟨a, b, c, d, e⟩, rfl⟩
theorem isPol {x : List D} (h : IsL [.int .i64, .int .i64, .int .i64, .int .i64] x) : ∃ p : Pl, x = polRow p := by
  obtain ⟨a, b, c, d, rfl⟩ := ints4 h
  exact ⟨⟨a, b, c, d⟩, rfl⟩
theorem isRows {α : Type} {f : α → List D} {es : List CT} (hf : ∀ x, IsL es x → ∃ a, x = f a) {x : D} (h : IsC (.slice es) x) : ∃ l : List α, x = .sl (l.map f) ∧ l.length ≤ maxLen := by
  simp only [IsC] at h
  obtain ⟨rows, rfl, hl, hr⟩ := h
  have : ∃ l : List α, rows = l.map f := by
    clear hl
    induction rows with
    | nil => exact ⟨[], rfl⟩
    | cons r rs ih =>
      obtain ⟨l, hl⟩ := ih fun r hr' => hr r (by simp [hr'])
      obtain ⟨a, ha⟩ := hf r (hr r (by simp))
      exact ⟨a :: l, by simp [ha, hl]⟩
  obtain ⟨l, rfl⟩ := this
  exact ⟨l, rfl, by simpa using hl⟩
theorem isSeg {x : List D} (h : IsL [.int .i64, .int .i64, .slice [.int .i64, .int .i64, .int .i64, .int .i64, .int .i64]] x) : ∃ s : Sg, x = segRow s ∧ s.hops.length ≤ maxLen := by
  simp only [IsL] at h
  obtain ⟨_, _, rfl, h1, _, _, rfl, h2, _, _, rfl, h3, rfl⟩ := h
  obtain ⟨a, rfl⟩ := isInt h1
  obtain ⟨b, rfl⟩ := isInt h2
  obtain ⟨l, rfl, hl⟩ := isRows (fun _ => isHop) h3
  exact ⟨⟨a, b, l⟩, rfl, hl⟩

theorem wr64 {a : Int} (h : -9223372036854775808 ≤ a) (h' : a < 9223372036854775808) : IntKind.i64.wrap a = a := by
  rw [IntKind.wrap_i64]; omega
theorem wrapS {k : Nat} (h : k < 4611686018427387904) : IntKind.i64.wrap ((k : Int) + 1) = (k : Int) + 1 := wr64 (by omega) (by omega)
theorem take_step {α : Type} {l m : List α} {k : Nat} (h : k < l.length) (h' : k < m.length) (ht : l.take k = m.take k) (he : l[k] = m[k]) : l.take (k + 1) = m.take (k + 1) := by
  rw [List.take_succ_eq_append_getElem h, List.take_succ_eq_append_getElem h', ht, he]
/-- rows that are filled from the left -/
def fillR {α : Type} (f : α → List D) (z : List D) (l : List α) (k : Nat) : List (List D) := (l.take k).map f ++ List.replicate (l.length - k) z
section
variable {α : Type} {f : α → List D} {z : List D} {l : List α} {k : Nat}
theorem fillR_len (h : k ≤ l.length) : (fillR f z l k).length = l.length := by simp [fillR]; omega
theorem fillR_get (h : k < l.length) : (fillR f z l k).getD k [] = z := by
  simp only [fillR, List.getD, List.getElem?_append, List.length_map, List.length_take]
  rw [if_neg (by omega)]
  simp [show k - min k l.length = 0 by omega, List.getElem?_replicate, show 0 < l.length - k by omega]
theorem fillR_set (h : k < l.length) : (fillR f z l k).set k (f l[k]) = fillR f z l (k + 1) := by
  simp only [fillR]
  rw [List.set_append_right _ _ (by simp; omega)]
  have e1 : k - ((l.take k).map f).length = 0 := by simp; omega
  have e2 : l.length - k = (l.length - (k + 1)) + 1 := by omega
  rw [e1, e2, List.replicate_succ, List.set_cons_zero, List.take_succ_eq_append_getElem h, List.map_append, List.append_assoc]
  rfl
theorem fillR_zero : fillR f z l 0 = List.replicate l.length z := by simp [fillR]
theorem fillR_all : fillR f z l l.length = l.map f := by simp [fillR]
end
theorem getD_map_lt {α : Type} {f : α → List D} {l : List α} {k : Nat} (h : k < l.length) : (l.map f).getD k [] = f l[k] := by simp [List.getD, h]

theorem eq_hop : AggEq Try.prog 41 5 := aggEq_of (by kernel_rfl)

def inR (a b c : Int) : Bool := decide (b ≤ a) && decide (a ≤ c)

def firstAS (s : Sg) : Int := match s.hops with | [] => -1 | h :: _ => h.asn
def lastAS (s : Sg) : Int := if h : 0 < s.hops.length then s.hops[s.hops.length - 1].asn else -1
def isTerm (s : Sg) : Bool := if h : 0 < s.hops.length then s.hops[s.hops.length - 1].eg == 0 else false
theorem wrapP {n : Nat} (h : 0 < n) (h' : n < 4611686018427387904) : IntKind.i64.wrap ((n : Int) - 1) = ((n - 1 : Nat) : Int) := by
  rw [wr64 (by omega) (by omega)]; omega

end Go.Proofs.Ytpgkmmfhlkipcaa
