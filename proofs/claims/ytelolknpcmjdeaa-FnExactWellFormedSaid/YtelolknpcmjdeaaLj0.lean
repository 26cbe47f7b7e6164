/- The words of this part of the program (j). -/
import Derived.Test.YtelolknpcmjdeaaLi0
namespace Go.Proofs.Ytelolknpcmjdeaa
open Go.RowKit
set_option linter.unusedSimpArgs false
set_option linter.unusedVariables false
set_option maxRecDepth 100000
structure Bc where
  ing : Int
  seg : Sg
  deriving DecidableEq
abbrev bcRow (b : Bc) : List D := [.int .i64 b.ing, .int .i64 b.seg.ts, .int .i64 b.seg.beta, .sl (b.seg.hops.map hopRow)]
def bcW (b : Bc) : Prop := i64R b.ing ∧ segW b.seg
theorem isBcW {x : List D} (h : IsL [.int .i64, .int .i64, .int .i64, .slice [.int .i64, .int .i64, .int .i64, .int .i64, .int .i64]] x) : ∃ b : Bc, x = bcRow b ∧ b.seg.hops.length ≤ maxLen ∧ bcW b := by
  simp only [IsL] at h
  obtain ⟨_, _, rfl, h0, _, _, rfl, h1, _, _, rfl, h2, _, _, rfl, h3, rfl⟩ := h
  obtain ⟨z, rfl, w0⟩ := isIntW h0
  obtain ⟨a, rfl, w1⟩ := isIntW h1
  obtain ⟨b, rfl, w2⟩ := isIntW h2
  obtain ⟨l, rfl, hl, w3⟩ := isRowsW (fun _ => isHopW) h3
  exact ⟨⟨z, ⟨a, b, l⟩⟩, rfl, hl, w0, w1, w2, w3⟩
theorem isBcs {x : D} (h : IsC (.slice [.int .i64, .int .i64, .int .i64, .slice [.int .i64, .int .i64, .int .i64, .int .i64, .int .i64]]) x) : ∃ l : List Bc, x = .sl (l.map bcRow) ∧ l.length ≤ maxLen ∧ ∀ b ∈ l, b.seg.hops.length ≤ maxLen ∧ bcW b :=
  isRowsW (fun _ => isBcW) h
theorem rowLen_bcs (l : List Bc) : RowLen (l.map bcRow) 4 := rowLen_map fun _ => rfl
/-- how much is left behind a list of beacons -/
def szB (l : List Bc) : Nat := (l.map fun b => b.seg.hops.length).sum
theorem szB_step (l : List Bc) (k : Nat) (h : k < l.length) : szB (l.take (k + 1)) = szB (l.take k) + l[k].seg.hops.length := by
  rw [List.take_succ_eq_append_getElem h]; simp only [szB, List.map_append, List.sum_append, List.map_cons, List.map_nil, List.sum_cons, List.sum_nil, Nat.add_zero]
theorem szB_take (l : List Bc) (k : Nat) : szB (l.take k) ≤ szB l := by
  conv => rhs; rw [← List.take_append_drop k l]
  simp only [szB, List.map_append, List.sum_append]; omega
theorem szB_mem {l : List Bc} {b : Bc} (h : b ∈ l) : b.seg.hops.length ≤ szB l := by
  induction l with
  | nil => simp at h
  | cons x l ih =>
    simp only [szB, List.map_cons, List.sum_cons] at ih ⊢
    rcases List.mem_cons.1 h with rfl | h
    · omega
    · have := ih h; omega
def leftB (l : List Bc) (a : Int) : Int := if a - l.length - szB l < 0 then -1 else a - l.length - szB l

def hasB (l : List Bc) (g : Bc) : Bool := l.any fun x => decide (x = g)
theorem any_stepB {l : List Bc} {p : Bc → Bool} {k : Nat} (h : k < l.length) : (l.take (k + 1)).any p = ((l.take k).any p || p l[k]) := by
  rw [List.take_succ_eq_append_getElem h]; simp only [List.any_append, List.any_cons, List.any_nil, Bool.or_false]
theorem any_memB {l : List Bc} {p : Bc → Bool} {k : Nat} (h : k < l.length) (hp : p l[k] = true) : l.any p = true := List.any_eq_true.2 ⟨l[k], List.getElem_mem h, hp⟩

def addE (s i : Int) : Int := if inR s 0 65535 && inR i 0 15 then IntKind.i64.wrap (BitVec.ofInt IntKind.i64.bits s ||| BitVec.ofInt IntKind.i64.bits (IntKind.i64.wrap (1 * 2 ^ min i.toNat IntKind.i64.bits))).toNat else s

def origA (l : List Bc) : Int := l.foldl (fun s b => addE s (firstAS b.seg)) 0
theorem origA_step (l : List Bc) (k : Nat) (h : k < l.length) : origA (l.take (k + 1)) = addE (origA (l.take k)) (firstAS l[k].seg) := by
  rw [List.take_succ_eq_append_getElem h]; simp only [origA, List.foldl_append, List.foldl_cons, List.foldl_nil]

end Go.Proofs.Ytelolknpcmjdeaa
