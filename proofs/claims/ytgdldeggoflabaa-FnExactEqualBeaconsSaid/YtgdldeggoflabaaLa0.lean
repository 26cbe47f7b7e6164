/- The words of this part of the program (a). -/
import Derived.Test.YtgdldeggoflabaaMt
import Derived.Test.YtgdldeggoflabaaProg
namespace Go.Proofs.Ytgdldeggoflabaa
open Go.RowKit
set_option linter.unusedSimpArgs false
set_option linter.unusedVariables false
set_option maxRecDepth 100000
theorem ti3 : tI Try.prog 3 = ⟨.int .i64, 1, [.int .i64 0]⟩ := by kernel_rfl
theorem ct3 : ctOf Try.prog 8 3 = some [.int .i64] := by kernel_rfl
theorem ti4 : tI Try.prog 4 = ⟨.bool, 1, [.bool false]⟩ := by kernel_rfl
theorem ct4 : ctOf Try.prog 8 4 = some [.bool] := by kernel_rfl
theorem ti5 : tI Try.prog 5 = ⟨.int .u8, 1, [.int .u8 0]⟩ := by kernel_rfl
theorem ct5 : ctOf Try.prog 8 5 = some [.int .u8] := by kernel_rfl
theorem ti9 : tI Try.prog 9 = ⟨.str, 1, [.str []]⟩ := by kernel_rfl
theorem ct9 : ctOf Try.prog 8 9 = some [.str] := by kernel_rfl
theorem ti22 : tI Try.prog 22 = ⟨.slice 131 3 24 [.int .i64 0, .bool false, .int .i64 0], 1, [.nl]⟩ := by kernel_rfl
theorem ct22 : ctOf Try.prog 8 22 = some [.slice [.int .i64, .bool, .int .i64]] := by kernel_rfl
theorem ti23 : tI Try.prog 23 = ⟨.slice 135 5 40 [.int .i64 0, .int .i64 0, .int .i64 0, .int .i64 0, .int .i64 0], 1, [.nl]⟩ := by kernel_rfl
theorem ct23 : ctOf Try.prog 8 23 = some [.slice [.int .i64, .int .i64, .int .i64, .int .i64, .int .i64]] := by kernel_rfl
theorem ti25 : tI Try.prog 25 = ⟨.struct [(0, 1), (1, 1)], 2, [.nl, .nl]⟩ := by kernel_rfl
theorem ct25 : ctOf Try.prog 8 25 = some [.slice [.int .i64, .bool, .int .i64], .slice [.int .i64, .int .i64, .int .i64, .int .i64, .int .i64]] := by kernel_rfl
theorem ti26 : tI Try.prog 26 = ⟨.slice 83 4 48 [.int .i64 0, .int .i64 0, .int .i64 0, .nl], 1, [.nl]⟩ := by kernel_rfl
theorem ct26 : ctOf Try.prog 8 26 = some [.slice [.int .i64, .int .i64, .int .i64, .slice [.int .i64, .int .i64, .int .i64, .int .i64, .int .i64]]] := by kernel_rfl
theorem ti30 : tI Try.prog 30 = ⟨.slice 107 3 24 [.int .i64 0, .bool false, .int .i64 0], 1, [.nl]⟩ := by kernel_rfl
theorem ct30 : ctOf Try.prog 8 30 = some [.slice [.int .i64, .bool, .int .i64]] := by kernel_rfl
theorem ti31 : tI Try.prog 31 = ⟨.slice 133 5 40 [.int .i64 0, .int .i64 0, .int .i64 0, .int .i64 0, .int .i64 0], 1, [.nl]⟩ := by kernel_rfl
theorem ct31 : ctOf Try.prog 8 31 = some [.slice [.int .i64, .int .i64, .int .i64, .int .i64, .int .i64]] := by kernel_rfl
theorem ti33 : tI Try.prog 33 = ⟨.struct [(0, 1), (1, 1)], 2, [.nl, .nl]⟩ := by kernel_rfl
theorem ct33 : ctOf Try.prog 8 33 = some [.slice [.int .i64, .bool, .int .i64], .slice [.int .i64, .int .i64, .int .i64, .int .i64, .int .i64]] := by kernel_rfl
theorem ti35 : tI Try.prog 35 = ⟨.slice 86 4 48 [.int .i64 0, .int .i64 0, .int .i64 0, .nl], 1, [.nl]⟩ := by kernel_rfl
theorem ct35 : ctOf Try.prog 8 35 = some [.slice [.int .i64, .int .i64, .int .i64, .slice [.int .i64, .int .i64, .int .i64, .int .i64, .int .i64]]] := by kernel_rfl
theorem ti44 : tI Try.prog 44 = ⟨.slice 143 5 40 [.int .i64 0, .int .i64 0, .int .i64 0, .int .i64 0, .int .i64 0], 1, [.nl]⟩ := by kernel_rfl
theorem ct44 : ctOf Try.prog 8 44 = some [.slice [.int .i64, .int .i64, .int .i64, .int .i64, .int .i64]] := by kernel_rfl
theorem ti46 : tI Try.prog 46 = ⟨.struct [(0, 1), (1, 1), (2, 1)], 3, [.int .i64 0, .int .i64 0, .nl]⟩ := by kernel_rfl
theorem ct46 : ctOf Try.prog 8 46 = some [.int .i64, .int .i64, .slice [.int .i64, .int .i64, .int .i64, .int .i64, .int .i64]] := by kernel_rfl
theorem ti49 : tI Try.prog 49 = ⟨.slice 115 5 40 [.int .i64 0, .int .i64 0, .int .i64 0, .int .i64 0, .int .i64 0], 1, [.nl]⟩ := by kernel_rfl
theorem ct49 : ctOf Try.prog 8 49 = some [.slice [.int .i64, .int .i64, .int .i64, .int .i64, .int .i64]] := by kernel_rfl
theorem ti51 : tI Try.prog 51 = ⟨.struct [(0, 1), (1, 1), (2, 1)], 3, [.int .i64 0, .int .i64 0, .nl]⟩ := by kernel_rfl
theorem ct51 : ctOf Try.prog 8 51 = some [.int .i64, .int .i64, .slice [.int .i64, .int .i64, .int .i64, .int .i64, .int .i64]] := by kernel_rfl
theorem ti55 : tI Try.prog 55 = ⟨.slice 3 1 8 [.int .i64 0], 1, [.nl]⟩ := by kernel_rfl
theorem ct55 : ctOf Try.prog 8 55 = some [.slice [.int .i64]] := by kernel_rfl
theorem ti62 : tI Try.prog 62 = ⟨.struct [(0, 1), (1, 1), (2, 1), (3, 1)], 4, [.int .i64 0, .int .i64 0, .int .i64 0, .int .i64 0]⟩ := by kernel_rfl
theorem ct62 : ctOf Try.prog 8 62 = some [.int .i64, .int .i64, .int .i64, .int .i64] := by kernel_rfl
theorem ti64 : tI Try.prog 64 = ⟨.struct [(0, 1), (1, 1), (2, 1), (3, 1)], 4, [.int .i64 0, .int .i64 0, .int .i64 0, .int .i64 0]⟩ := by kernel_rfl
theorem ct64 : ctOf Try.prog 8 64 = some [.int .i64, .int .i64, .int .i64, .int .i64] := by kernel_rfl
theorem ti67 : tI Try.prog 67 = ⟨.slice 5 1 1 [.int .u8 0], 1, [.nl]⟩ := by kernel_rfl
theorem ct67 : ctOf Try.prog 8 67 = some [.slice [.int .u8]] := by kernel_rfl
theorem ti83 : tI Try.prog 83 = ⟨.struct [(0, 1), (1, 3)], 4, [.int .i64 0, .int .i64 0, .int .i64 0, .nl]⟩ := by kernel_rfl
theorem ct83 : ctOf Try.prog 8 83 = some [.int .i64, .int .i64, .int .i64, .slice [.int .i64, .int .i64, .int .i64, .int .i64, .int .i64]] := by kernel_rfl
theorem ti86 : tI Try.prog 86 = ⟨.struct [(0, 1), (1, 3)], 4, [.int .i64 0, .int .i64 0, .int .i64 0, .nl]⟩ := by kernel_rfl
theorem ct86 : ctOf Try.prog 8 86 = some [.int .i64, .int .i64, .int .i64, .slice [.int .i64, .int .i64, .int .i64, .int .i64, .int .i64]] := by kernel_rfl
theorem ti107 : tI Try.prog 107 = ⟨.struct [(0, 1), (1, 1), (2, 1)], 3, [.int .i64 0, .bool false, .int .i64 0]⟩ := by kernel_rfl
theorem ct107 : ctOf Try.prog 8 107 = some [.int .i64, .bool, .int .i64] := by kernel_rfl
theorem ti115 : tI Try.prog 115 = ⟨.struct [(0, 1), (1, 1), (2, 1), (3, 1), (4, 1)], 5, [.int .i64 0, .int .i64 0, .int .i64 0, .int .i64 0, .int .i64 0]⟩ := by kernel_rfl
theorem ct115 : ctOf Try.prog 8 115 = some [.int .i64, .int .i64, .int .i64, .int .i64, .int .i64] := by kernel_rfl
theorem ti124 : tI Try.prog 124 = ⟨.slice 9 1 16 [.str []], 1, [.nl]⟩ := by kernel_rfl
theorem ct124 : ctOf Try.prog 8 124 = some [.slice [.str]] := by kernel_rfl
theorem ti131 : tI Try.prog 131 = ⟨.struct [(0, 1), (1, 1), (2, 1)], 3, [.int .i64 0, .bool false, .int .i64 0]⟩ := by kernel_rfl
theorem ct131 : ctOf Try.prog 8 131 = some [.int .i64, .bool, .int .i64] := by kernel_rfl
theorem ti133 : tI Try.prog 133 = ⟨.struct [(0, 1), (1, 1), (2, 1), (3, 1), (4, 1)], 5, [.int .i64 0, .int .i64 0, .int .i64 0, .int .i64 0, .int .i64 0]⟩ := by kernel_rfl
theorem ct133 : ctOf Try.prog 8 133 = some [.int .i64, .int .i64, .int .i64, .int .i64, .int .i64] := by kernel_rfl
theorem ti135 : tI Try.prog 135 = ⟨.struct [(0, 1), (1, 1), (2, 1), (3, 1), (4, 1)], 5, [.int .i64 0, .int .i64 0, .int .i64 0, .int .i64 0, .int .i64 0]⟩ := by kernel_rfl
theorem ct135 : ctOf Try.prog 8 135 = some [.int .i64, .int .i64, .int .i64, .int .i64, .int .i64] := by kernel_rfl
theorem ti143 : tI Try.prog 143 = ⟨.struct [(0, 1), (1, 1), (2, 1), (3, 1), (4, 1)], 5, [.int .i64 0, .int .i64 0, .int .i64 0, .int .i64 0, .int .i64 0]⟩ := by kernel_rfl
theorem ct143 : ctOf Try.prog 8 143 = some [.int .i64, .int .i64, .int .i64, .int .i64, .int .i64] := by kernel_rfl
theorem ti148 : tI Try.prog 148 = ⟨.int .u64, 1, [.int .u64 0]⟩ := by kernel_rfl
theorem ct148 : ctOf Try.prog 8 148 = some [.int .u64] := by kernel_rfl
structure Hp where
  asn : Int
  ing : Int
  eg : Int
  ex : Int
  mac : Int
  deriving DecidableEq
structure Pl where
  ml : Int
  den : Int
  clo : Int
  life : Int
  deriving DecidableEq
abbrev hopRow (h : Hp) : List D := [.int .i64 h.asn, .int .i64 h.ing, .int .i64 h.eg, .int .i64 h.ex, .int .i64 h.mac]
abbrev polRow (p : Pl) : List D := [.int .i64 p.ml, .int .i64 p.den, .int .i64 p.clo, .int .i64 p.life]
structure Sg where
  ts : Int
  beta : Int
  hops : List Hp
  deriving DecidableEq
abbrev segRow (s : Sg) : List D := [.int .i64 s.ts, .int .i64 s.beta, .sl (s.hops.map hopRow)]

theorem isHop {x : List D} (h : IsL [.int .i64, .int .i64, .int .i64, .int .i64, .int .i64] x) : ∃ p : Hp, x = hopRow p := by
  obtain ⟨a, b, c, d, e, rfl⟩ := ints5 h
  exact ⟨⟨a, b, c, d, e⟩, rfl⟩
theorem isPol {x : List D} (h : IsL [.int .i64, .int .i64, .int .i64, .int .i64] x) : ∃ p : Pl, x = polRow p := by
  obtain ⟨a, b, c, d, rfl⟩ := ints4 h
  exact ⟨⟨a, b, c, d⟩, rfl⟩
theorem isRows {α : Type} {f : α → List D} {es : List CT} (hf : ∀ x, IsL es x → ∃ a, x = f a) {x : D} (h : IsC (.slice es) x) : ∃ l : List α, x = .sl (l.map f) ∧ l.length ≤ maxLen := by
  simp only [IsC] at h
  obtain ⟨rows, rfl, hl, hr⟩ := h
  have : ∃ l : List α, rows = l.map f := by
    clear hl
    induction rows with
    | nil => exact ⟨[], rfl⟩
    | cons r rs ih =>
      obtain ⟨l, hl⟩ := ih fun r hr' => hr r (by simp [hr'])
      obtain ⟨a, ha⟩ := hf r (hr r (by simp))
      exact ⟨a :: l, by simp [ha, hl]⟩
  obtain ⟨l, rfl⟩ := this
  exact ⟨l, rfl, by simpa using hl⟩
theorem isSeg {x : List D} (h : IsL [.int .i64, .int .i64, .slice [.int .i64, .int .i64, .int .i64, .int .i64, .int .i64]] x) : ∃ s : Sg, x = segRow s ∧ s.hops.length ≤ maxLen := by
  simp only [IsL] at h
  obtain ⟨_, _, rfl, h1, _, _, rfl, h2, _, _, rfl, h3, rfl⟩ := h
  obtain ⟨a, rfl⟩ := isInt h1
  obtain ⟨b, rfl⟩ := isInt h2
  obtain ⟨l, rfl, hl⟩ := isRows (fun _ => isHop) h3
  exact ⟨⟨a, b, l⟩, rfl, hl⟩

theorem wr64 {a : Int} (h : -9223372036854775808 ≤ a) (h' : a < 9223372036854775808) : IntKind.i64.wrap a = a := by
  rw [IntKind.wrap_i64]; omega
theorem wrapS {k : Nat} (h : k < 4611686018427387904) : IntKind.i64.wrap ((k : Int) + 1) = (k : Int) + 1 := wr64 (by omega) (by omega)
theorem take_step {α : Type} {l m : List α} {k : Nat} (h : k < l.length) (h' : k < m.length) (ht : l.take k = m.take k) (he : l[k] = m[k]) : l.take (k + 1) = m.take (k + 1) := by
  rw [List.take_succ_eq_append_getElem h, List.take_succ_eq_append_getElem h', ht, he]
/-- rows that are filled from the left -/
def fillR {α : Type} (f : α → List D) (z : List D) (l : List α) (k : Nat) : List (List D) := (l.take k).map f ++ List.replicate (l.length - k) z
section
variable {α : Type} {f : α → List D} {z : List D} {l : List α} {k : Nat}
theorem fillR_len (h : k ≤ l.length) : (fillR f z l k).length = l.length := by simp [fillR]; omega
theorem fillR_get (h : k < l.length) : (fillR f z l k).getD k [] = z := by
  simp only [fillR, List.getD, List.getElem?_append, List.length_map, List.length_take]
  rw [if_neg (by omega)]
  simp [show k - min k l.length = 0 by omega, List.getElem?_replicate, show 0 < l.length - k by omega]
theorem fillR_set (h : k < l.length) : (fillR f z l k).set k (f l[k]) = fillR f z l (k + 1) := by
  simp only [fillR]
  rw [List.set_append_right _ _ (by simp; omega)]
  have e1 : k - ((l.take k).map f).length = 0 := by simp; omega
  have e2 : l.length - k = (l.length - (k + 1)) + 1 := by omega
  rw [e1, e2, List.replicate_succ, List.set_cons_zero, List.take_succ_eq_append_getElem h, List.map_append, List.append_assoc]
  rfl
theorem fillR_zero : fillR f z l 0 = List.replicate l.length z := by simp [fillR]
theorem fillR_all : fillR f z l l.length = l.map f := by simp [fillR]
end
theorem getD_map_lt {α : Type} {f : α → List D} {l : List α} {k : Nat} (h : k < l.length) : (l.map f).getD k [] = f l[k] := by simp [List.getD, h]

theorem eq_hop : AggEq Try.prog 115 5 := aggEq_of (by kernel_rfl)

def inR (a b c : Int) : Bool := decide (b ≤ a) && decide (a ≤ c)

def firstAS (s : Sg) : Int := match s.hops with | [] => -1 | h :: _ => h.asn
def lastAS (s : Sg) : Int := if h : 0 < s.hops.length then s.hops[s.hops.length - 1].asn else -1
def isTerm (s : Sg) : Bool := if h : 0 < s.hops.length then s.hops[s.hops.length - 1].eg == 0 else false
theorem wrapP {n : Nat} (h : 0 < n) (h' : n < 4611686018427387904) : IntKind.i64.wrap ((n : Int) - 1) = ((n - 1 : Nat) : Int) := by
  rw [wr64 (by omega) (by omega)]; omega

end Go.Proofs.Ytgdldeggoflabaa
