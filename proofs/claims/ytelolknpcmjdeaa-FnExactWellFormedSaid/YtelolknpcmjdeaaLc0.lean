/- The words of this part of the program (c). -/
import Derived.Test.YtelolknpcmjdeaaLb0
namespace Go.Proofs.Ytelolknpcmjdeaa
open Go.RowKit
set_option linter.unusedSimpArgs false
set_option linter.unusedVariables false
set_option maxRecDepth 100000
/-- the least expiry -/
def leastEx : List Hp → Int
  | [] => 0
  | h :: t => t.foldl (fun m x => min m x.ex) h.ex
theorem leastEx_step (l : List Hp) (k : Nat) (h : k < l.length) : leastEx (l.take (k + 1)) = if k = 0 then l[k].ex else min (leastEx (l.take k)) l[k].ex := by
  rw [List.take_succ_eq_append_getElem h]
  cases l with
  | nil => simp at h
  | cons x t =>
    cases k with
    | zero => simp [leastEx]
    | succ k =>
      simp only [List.take_succ_cons, List.cons_append, leastEx, List.foldl_append, List.foldl_cons, List.foldl_nil, List.getElem_cons_succ]
      simp

theorem hp_ints (p q : Hp) : ([p.asn, p.ing, p.eg, p.ex, p.mac] = [q.asn, q.ing, q.eg, q.ex, q.mac]) = (p = q) := by
  cases p; cases q; simp

end Go.Proofs.Ytelolknpcmjdeaa
