/- The functions of this program, walked by the evaluator: part a, 1. -/
import Derived.Test.YtmiclkgkfkcnoaaLD
namespace Go.Proofs.Ytmiclkgkfkcnoaa
open Go.RowKit
set_option linter.unusedSimpArgs false
set_option linter.unusedVariables false
set_option maxRecDepth 100000
set_option linter.defProp false
namespace GLa1
def gx := And.intro (@hopRow.eq_1) (And.intro (@polRow.eq_1) (@segRow.eq_1))
end GLa1
open GLa1
theorem inRange_i (a b c : Int) : ACall Try.prog 132 [.int .i64 a, .int .i64 b, .int .i64 c] (.bool (inR a b c)) [] := by
  refine acall_mk Try.func132 rfl Try.ntmps132 Try.results132 (by kernel_rfl) (by simp) ?_
  simp only [args, Nat.zero_add, Nat.reduceAdd]
  repeat' (first | with_reducible refine go ?_ | with_reducible refine t_region fun KT hT => ?_ | (refine gp fun KK hK => ?_; first | (refine hK _ _ ?_; clear hK KK) | (refine hK _ ?_; clear hK KK; try simp only [upd_mk]) | (refine ⟨by first | exact eq_hop, hK _ _ ?_⟩; clear hK KK) | (refine ⟨by first | exact eq_hop, hK _ (nz ?_)⟩; clear hK KK) | ((repeat refine And.intro (by first | omega | (rw [getD_map_lt (by omega)]; rfl) | (simp; first | done | omega)) ?_); first | (refine hK _ _ ?_; clear hK KK) | (refine hK _ ?_; clear hK KK; try simp only [upd_mk]))) | ((with_reducible first | refine o_nil (hT _ _ ?_) | refine h_nil (hT _ ?_)); clear hT KT) | ((first | refine gd fun AA BB hA hB => ?_ | refine tc fun AA BB hA hB => ?_); first | (refine go ?_; (first | refine hA ?_ | refine hB ?_); clear hA hB AA BB) | (refine go2 ?_ ?_ <;> intro hb <;> (first | refine hA ?_ | refine hB ?_) <;> clear hA hB AA BB <;> (try simp only [hb, decide_true, decide_false]) <;> (try (exfalso; first | (simp at hb; done) | (simp at hb; omega))))) | (with_reducible refine skS ?_; simp only [upd_mk]) | with_reducible refine tdr fun KT hT => ?_ | with_reducible refine bY ?_)
  all_goals (refine fe ?_; try exact trivial)
  all_goals simp [hb, inR]

theorem l1In_s (a b c : Int) : ACall Try.prog 133 [.int .i64 a, .int .i64 b, .int .i64 c] (.bool (inR a b c)) [] := by
  refine acall_mk Try.func133 rfl Try.ntmps133 Try.results133 (by kernel_rfl) (by simp) ?_
  simp only [args, Nat.zero_add, Nat.reduceAdd]
  repeat' (first | with_reducible refine go ?_ | with_reducible refine t_region fun KT hT => ?_ | (refine gp fun KK hK => ?_; first | (refine hK _ _ ?_; clear hK KK) | (refine hK _ ?_; clear hK KK; try simp only [upd_mk]) | (refine ⟨by first | exact eq_hop, hK _ _ ?_⟩; clear hK KK) | (refine ⟨by first | exact eq_hop, hK _ (nz ?_)⟩; clear hK KK) | ((repeat refine And.intro (by first | omega | (rw [getD_map_lt (by omega)]; rfl) | (simp; first | done | omega)) ?_); first | (refine hK _ _ ?_; clear hK KK) | (refine hK _ ?_; clear hK KK; try simp only [upd_mk]))) | ((with_reducible first | refine o_nil (hT _ _ ?_) | refine h_nil (hT _ ?_)); clear hT KT) | ((first | refine gd fun AA BB hA hB => ?_ | refine tc fun AA BB hA hB => ?_); first | (refine go ?_; (first | refine hA ?_ | refine hB ?_); clear hA hB AA BB) | (refine go2 ?_ ?_ <;> intro hb <;> (first | refine hA ?_ | refine hB ?_) <;> clear hA hB AA BB <;> (try simp only [hb, decide_true, decide_false]) <;> (try (exfalso; first | (simp at hb; done) | (simp at hb; omega))))) | (with_reducible refine skS ?_; simp only [upd_mk]) | with_reducible refine tdr fun KT hT => ?_ | with_reducible refine bY ?_)
  all_goals (refine fe ?_; try exact trivial)
  all_goals simp [hb, inR]

end Go.Proofs.Ytmiclkgkfkcnoaa
