/- The words of this part of the program (g). -/
import Derived.Test.YtelolknpcmjdeaaLf0
namespace Go.Proofs.Ytelolknpcmjdeaa
open Go.RowKit
set_option linter.unusedSimpArgs false
set_option linter.unusedVariables false
set_option maxRecDepth 100000
def cont (s i : Int) : Bool := inR s 0 65535 && inR i 0 15 && (IntKind.i64.wrap (BitVec.ofInt IntKind.i64.bits (s.fdiv (2 ^ min i.toNat IntKind.i64.bits)) &&& BitVec.ofInt IntKind.i64.bits 1).toNat == 1)
def elemsK (s : Int) (k : Nat) : List Int := (List.range k).flatMap fun (i : Nat) => if cont s i then [(i : Int)] else []
def elems (s : Int) : List Int := elemsK s 16
def joinT (by_ : List UInt8) : List (List UInt8) → List UInt8
  | [] => []
  | x :: l => x ++ (l.flatMap fun y => by_ ++ y)
theorem elemsK_zero (s : Int) : elemsK s 0 = [] := rfl
theorem elemsK_step (s : Int) (k : Nat) : elemsK s (k + 1) = elemsK s k ++ (if cont s k then [(k : Int)] else []) := by
  simp only [elemsK, List.range_succ, List.flatMap_append, List.flatMap_cons, List.flatMap_nil, List.append_nil]
theorem elemsK_len (s : Int) : ∀ k, (elemsK s k).length ≤ k
  | 0 => by simp [elemsK_zero]
  | k + 1 => by
    have := elemsK_len s k
    rw [elemsK_step]; split <;> simp <;> omega
theorem elems_mem {s x : Int} (h : x ∈ elems s) : 0 ≤ x ∧ x < 16 := by
  simp only [elems, elemsK, List.mem_flatMap, List.mem_range] at h
  obtain ⟨i, hi, h⟩ := h
  split at h <;> simp at h
  omega
theorem joinT_step (b : List UInt8) (l : List (List UInt8)) (k : Nat) (h : k < l.length) : joinT b (l.take (k + 1)) = if k = 0 then l[k] else joinT b (l.take k) ++ (b ++ l[k]) := by
  rw [List.take_succ_eq_append_getElem h]
  cases l with
  | nil => simp at h
  | cons x t =>
    cases k with
    | zero => simp [joinT]
    | succ k => simp only [List.take_succ_cons, List.cons_append, joinT, List.flatMap_append, List.flatMap_cons, List.flatMap_nil, List.append_nil, List.getElem_cons_succ, List.append_assoc, Nat.succ_ne_zero, if_false, Nat.add_eq_zero_iff, Nat.one_ne_zero, and_false]

theorem getD_map_str {l : List (List UInt8)} {k : Nat} (h : k < l.length) : (l.map fun s => [D.str s]).getD k [] = [D.str l[k]] := by simp [List.getD, h]
theorem joinT_len (b : List UInt8) (l : List (List UInt8)) (B : Nat) (hb : b.length ≤ B) (hl : ∀ x ∈ l, x.length ≤ B) : (joinT b l).length ≤ 2 * B * l.length := by
  have : ∀ l : List (List UInt8), (∀ x ∈ l, x.length ≤ B) → (l.flatMap fun y => b ++ y).length ≤ 2 * B * l.length := by
    intro l hl
    induction l with
    | nil => simp
    | cons x l ih =>
      have h1 := ih fun y hy => hl y (by simp [hy])
      have h2 := hl x (by simp)
      simp only [List.flatMap_cons, List.length_append, List.length_cons, Nat.mul_add, Nat.mul_one]; omega
  cases l with
  | nil => simp [joinT]
  | cons x l =>
    have h1 := this l fun y hy => hl y (by simp [hy])
    have h2 := hl x (by simp)
    simp only [joinT, List.length_append, List.length_cons, Nat.mul_add, Nat.mul_one]; omega

theorem rowLen_strs (l : List (List UInt8)) : RowLen (l.map fun s => [D.str s]) 1 := rowLen_map fun _ => rfl
theorem map_take_step {l : List Int} {k : Nat} (h : k < l.length) : ((l.take (k + 1)).map fmtInt).map (fun s => [D.str s]) = ((l.take k).map fmtInt).map (fun s => [D.str s]) ++ [[D.str (fmtInt l[k])]] := by
  rw [List.take_succ_eq_append_getElem h]; simp only [List.map_append, List.map_cons, List.map_nil]
theorem fmtInt_20 {n : Int} (h1 : -9223372036854775808 ≤ n) (h2 : n < 9223372036854775808) : (fmtInt n).length ≤ 21 := by
  have := digs_20 h1 h2
  unfold fmtInt; split <;> simp <;> omega

def fmtPol (p : Pl) : List UInt8 := fmtInt p.ml ++ [32] ++ fmtInt p.life ++ [32, 100] ++ joinT [44] ((elems p.den).map fmtInt) ++ [32, 115] ++ joinT [44] ((elems p.clo).map fmtInt)
def polW (p : Pl) : Prop := (-9223372036854775808 ≤ p.ml ∧ p.ml < 9223372036854775808) ∧ (-9223372036854775808 ≤ p.life ∧ p.life < 9223372036854775808)
theorem elems_fmt (s : Int) : (joinT [44] ((elems s).map fmtInt)).length ≤ 700 := by
  have hw : ∀ x ∈ elems s, -9223372036854775808 ≤ x ∧ x < 9223372036854775808 := fun x hx => by have := elems_mem hx; omega
  have hj := joinT_len [44] ((elems s).map fmtInt) 21 (by simp) (by
    intro x hx
    obtain ⟨y, hy, rfl⟩ := List.mem_map.1 hx
    exact fmtInt_20 (hw y hy).1 (hw y hy).2)
  have hl : (elems s).length ≤ 16 := elemsK_len s 16
  simp only [List.length_map] at hj
  omega

theorem i64_wf {a : Int} (h : (Lit.int .i64 a).wf = true) : -9223372036854775808 ≤ a ∧ a < 9223372036854775808 := by
  simp only [Lit.wf, Bool.and_eq_true, decide_eq_true_eq] at h
  have h1 : IntKind.i64.min = -9223372036854775808 := by decide
  have h2 : IntKind.i64.max = 9223372036854775807 := by decide
  omega
theorem isPolW {x : List D} (h : IsL [.int .i64, .int .i64, .int .i64, .int .i64] x) : ∃ p : Pl, x = polRow p ∧ polW p := by
  simp only [IsL, IsC] at h
  obtain ⟨_, _, rfl, ⟨a, rfl, wa⟩, _, _, rfl, ⟨b, rfl, _⟩, _, _, rfl, ⟨c, rfl, _⟩, _, _, rfl, ⟨d, rfl, wd⟩, rfl⟩ := h
  refine ⟨⟨a, b, c, d⟩, rfl, ?_⟩
  have w1 := i64_wf wa
  have w2 := i64_wf wd
  exact ⟨w1, w2⟩

end Go.Proofs.Ytelolknpcmjdeaa
