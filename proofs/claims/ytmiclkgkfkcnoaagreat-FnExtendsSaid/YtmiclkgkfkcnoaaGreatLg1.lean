/- The functions of this program, walked by the evaluator: part g, 1. -/
import Derived.Test.YtmiclkgkfkcnoaaGreatLb1
import Derived.Test.YtmiclkgkfkcnoaaGreatLD
namespace Go.Proofs.YtmiclkgkfkcnoaaGreat
open Go.RowKit
set_option linter.unusedSimpArgs false
set_option linter.unusedVariables false
set_option maxRecDepth 100000
set_option linter.defProp false
namespace GLg1
def gx := And.intro (@hopRow.eq_1) (And.intro (@polRow.eq_1) (And.intro (@segRow.eq_1) (And.intro (@intRow.eq_1) (And.intro (@rowLen_ints) (And.intro (@rowLen_nil) (And.intro (@rowLen_cons) (And.intro (@rowLen_append) (And.intro (@lenL_app) (And.intro (@byteRow.eq_1) (And.intro (@rowLen_bytes) (And.intro (@bytesOf_map) (And.intro (@bytesOf_cons) (And.intro (@bytesOf_one) (@rowLen_strs))))))))))))))
end GLg1
open GLg1
theorem l4One_s (i : Int) : ACall Tryz.prog 83 [.int .i64 i] (.bool (inR i 0 15)) [] := by
  refine acall_mk Tryz.func83 rfl Tryz.ntmps83 Tryz.results83 (by kernel_rfl) (by simp) ?_
  simp only [args, Nat.zero_add, Nat.reduceAdd]
  repeat' (first | with_reducible refine go ?_ | with_reducible refine t_region fun KT hT => ?_ | (refine gp fun KK hK => ?_; first | ((with_reducible first | refine .inl ⟨_, _, ⟨l1In_s _ _ _, rfl, csq⟩, hK _ _ (nz ?_)⟩ | refine ⟨_, ⟨l1In_s _ _ _, rfl, rfl, csq⟩, hK _ (nz ?_)⟩); clear hK KK) | (refine ⟨by first | exact eq_hop, ?_⟩; (first | refine hK _ _ ?_ | refine hK _ (nz ?_)); clear hK KK) | ((repeat refine And.intro (by first | omega | (rw [getD_map_lt (by omega)]; rfl) | (simp; first | done | omega)) ?_); first | (refine hK _ _ ?_; clear hK KK) | (refine hK _ ?_; clear hK KK; try simp only [upd_mk]))) | ((with_reducible first | refine o_nil (hT _ _ ?_) | refine h_nil (hT _ ?_)); clear hT KT) | ((first | refine gd fun AA BB hA hB => ?_ | refine tc fun AA BB hA hB => ?_); first | (refine go ?_; (first | refine hA ?_ | refine hB ?_); clear hA hB AA BB) | (refine go2 ?_ ?_ <;> intro hb <;> (first | refine hA ?_ | refine hB ?_) <;> clear hA hB AA BB <;> (try simp only [hb, decide_true, decide_false]) <;> (try (exfalso; first | (simp at hb; done) | (simp at hb; omega))))) | (with_reducible refine skS ?_; simp only [upd_mk]) | with_reducible refine tdr fun KT hT => ?_ | with_reducible refine bY ?_)
  all_goals (refine fe ?_; try exact trivial)

theorem cont_i (s i : Int) : ACall Tryz.prog 53 [.int .i64 s, .int .i64 i] (.bool (cont s i)) [] := by
  by_cases h : inR i 0 15 = true
  · have h' : 0 ≤ i ∧ i ≤ 15 := by simpa [inR] using h
    have e1 : IntKind.u64.wrap i = i := by rw [IntKind.wrap_u64]; omega
    refine acall_mk Tryz.func53 rfl Tryz.ntmps53 Tryz.results53 (by kernel_rfl) (by simp) ?_
    simp only [args, Nat.zero_add, Nat.reduceAdd]
    (have fx := And.intro (@h) (And.intro (@h') (@e1))
     repeat' (first | with_reducible refine go ?_ | with_reducible refine t_region fun KT hT => ?_ | (refine gp fun KK hK => ?_; first | ((with_reducible first | refine .inl ⟨_, _, ⟨validSet_i _, rfl, csq⟩, hK _ _ (nz ?_)⟩ | refine .inl ⟨_, _, ⟨inRange_i _ _ _, rfl, csq⟩, hK _ _ (nz ?_)⟩ | refine ⟨_, ⟨validSet_i _, rfl, rfl, csq⟩, hK _ (nz ?_)⟩ | refine ⟨_, ⟨inRange_i _ _ _, rfl, rfl, csq⟩, hK _ (nz ?_)⟩); clear hK KK) | (refine ⟨by first | exact eq_hop, ?_⟩; (first | refine hK _ _ ?_ | refine hK _ (nz ?_)); clear hK KK) | ((repeat refine And.intro (by first | omega | (rw [getD_map_lt (by omega)]; rfl) | (simp; first | done | omega)) ?_); first | (refine hK _ _ ?_; clear hK KK) | (refine hK _ ?_; clear hK KK; try simp only [upd_mk]))) | ((with_reducible first | refine o_nil (hT _ _ ?_) | refine h_nil (hT _ ?_)); clear hT KT) | ((first | refine gd fun AA BB hA hB => ?_ | refine tc fun AA BB hA hB => ?_); first | (refine go ?_; (first | refine hA ?_ | refine hB ?_); clear hA hB AA BB) | (refine go2 ?_ ?_ <;> intro hb <;> (first | refine hA ?_ | refine hB ?_) <;> clear hA hB AA BB <;> (try simp only [hb, decide_true, decide_false]) <;> (try (exfalso; first | (simp at hb; done) | (simp at hb; omega))))) | (with_reducible refine skS ?_; simp only [upd_mk]) | with_reducible refine tdr fun KT hT => ?_ | with_reducible refine bY ?_)
     all_goals clear fx)
    all_goals (refine fe ?_; try exact trivial)
    all_goals simp_all [cont]
  · have h2 : inR i 0 15 = false := by simpa using h
    refine acall_mk Tryz.func53 rfl Tryz.ntmps53 Tryz.results53 (by kernel_rfl) (by simp) ?_
    simp only [args, Nat.zero_add, Nat.reduceAdd]
    (have fx := (@h2)
     repeat' (first | with_reducible refine go ?_ | with_reducible refine t_region fun KT hT => ?_ | (refine gp fun KK hK => ?_; first | ((with_reducible first | refine .inl ⟨_, _, ⟨validSet_i _, rfl, csq⟩, hK _ _ (nz ?_)⟩ | refine .inl ⟨_, _, ⟨inRange_i _ _ _, rfl, csq⟩, hK _ _ (nz ?_)⟩ | refine ⟨_, ⟨validSet_i _, rfl, rfl, csq⟩, hK _ (nz ?_)⟩ | refine ⟨_, ⟨inRange_i _ _ _, rfl, rfl, csq⟩, hK _ (nz ?_)⟩); clear hK KK) | (refine ⟨by first | exact eq_hop, ?_⟩; (first | refine hK _ _ ?_ | refine hK _ (nz ?_)); clear hK KK) | ((repeat refine And.intro (by first | omega | (rw [getD_map_lt (by omega)]; rfl) | (simp; first | done | omega)) ?_); first | (refine hK _ _ ?_; clear hK KK) | (refine hK _ ?_; clear hK KK; try simp only [upd_mk]))) | ((with_reducible first | refine o_nil (hT _ _ ?_) | refine h_nil (hT _ ?_)); clear hT KT) | ((first | refine gd fun AA BB hA hB => ?_ | refine tc fun AA BB hA hB => ?_); first | (refine go ?_; (first | refine hA ?_ | refine hB ?_); clear hA hB AA BB) | (refine go2 ?_ ?_ <;> intro hb <;> (first | refine hA ?_ | refine hB ?_) <;> clear hA hB AA BB <;> (try simp only [hb, decide_true, decide_false]) <;> (try (exfalso; first | (simp at hb; done) | (simp at hb; omega))))) | (with_reducible refine skS ?_; simp only [upd_mk]) | with_reducible refine tdr fun KT hT => ?_ | with_reducible refine bY ?_)
     all_goals clear fx)
    all_goals (refine fe ?_; try exact trivial)
    all_goals simp_all [cont]

theorem cont_s (s i : Int) : ACall Tryz.prog 62 [.int .i64 s, .int .i64 i] (.bool (cont s i)) [] := by
  by_cases h : inR i 0 15 = true
  · have h' : 0 ≤ i ∧ i ≤ 15 := by simpa [inR] using h
    refine acall_mk Tryz.func62 rfl Tryz.ntmps62 Tryz.results62 (by kernel_rfl) (by simp) ?_
    simp only [args, Nat.zero_add, Nat.reduceAdd]
    (have fx := And.intro (@h) (@h')
     repeat' (first | with_reducible refine go ?_ | with_reducible refine t_region fun KT hT => ?_ | (refine gp fun KK hK => ?_; first | ((with_reducible first | refine .inl ⟨_, _, ⟨validSet_s _, rfl, csq⟩, hK _ _ (nz ?_)⟩ | refine .inl ⟨_, _, ⟨l4One_s _, rfl, csq⟩, hK _ _ (nz ?_)⟩ | refine ⟨_, ⟨validSet_s _, rfl, rfl, csq⟩, hK _ (nz ?_)⟩ | refine ⟨_, ⟨l4One_s _, rfl, rfl, csq⟩, hK _ (nz ?_)⟩); clear hK KK) | (refine ⟨by first | exact eq_hop, ?_⟩; (first | refine hK _ _ ?_ | refine hK _ (nz ?_)); clear hK KK) | ((repeat refine And.intro (by first | omega | (rw [getD_map_lt (by omega)]; rfl) | (simp; first | done | omega)) ?_); first | (refine hK _ _ ?_; clear hK KK) | (refine hK _ ?_; clear hK KK; try simp only [upd_mk]))) | ((with_reducible first | refine o_nil (hT _ _ ?_) | refine h_nil (hT _ ?_)); clear hT KT) | ((first | refine gd fun AA BB hA hB => ?_ | refine tc fun AA BB hA hB => ?_); first | (refine go ?_; (first | refine hA ?_ | refine hB ?_); clear hA hB AA BB) | (refine go2 ?_ ?_ <;> intro hb <;> (first | refine hA ?_ | refine hB ?_) <;> clear hA hB AA BB <;> (try simp only [hb, decide_true, decide_false]) <;> (try (exfalso; first | (simp at hb; done) | (simp at hb; omega))))) | (with_reducible refine skS ?_; simp only [upd_mk]) | with_reducible refine tdr fun KT hT => ?_ | with_reducible refine bY ?_)
     all_goals clear fx)
    all_goals (refine fe ?_; try exact trivial)
    all_goals simp_all [cont]
  · have h2 : inR i 0 15 = false := by simpa using h
    refine acall_mk Tryz.func62 rfl Tryz.ntmps62 Tryz.results62 (by kernel_rfl) (by simp) ?_
    simp only [args, Nat.zero_add, Nat.reduceAdd]
    (have fx := (@h2)
     repeat' (first | with_reducible refine go ?_ | with_reducible refine t_region fun KT hT => ?_ | (refine gp fun KK hK => ?_; first | ((with_reducible first | refine .inl ⟨_, _, ⟨validSet_s _, rfl, csq⟩, hK _ _ (nz ?_)⟩ | refine .inl ⟨_, _, ⟨l4One_s _, rfl, csq⟩, hK _ _ (nz ?_)⟩ | refine ⟨_, ⟨validSet_s _, rfl, rfl, csq⟩, hK _ (nz ?_)⟩ | refine ⟨_, ⟨l4One_s _, rfl, rfl, csq⟩, hK _ (nz ?_)⟩); clear hK KK) | (refine ⟨by first | exact eq_hop, ?_⟩; (first | refine hK _ _ ?_ | refine hK _ (nz ?_)); clear hK KK) | ((repeat refine And.intro (by first | omega | (rw [getD_map_lt (by omega)]; rfl) | (simp; first | done | omega)) ?_); first | (refine hK _ _ ?_; clear hK KK) | (refine hK _ ?_; clear hK KK; try simp only [upd_mk]))) | ((with_reducible first | refine o_nil (hT _ _ ?_) | refine h_nil (hT _ ?_)); clear hT KT) | ((first | refine gd fun AA BB hA hB => ?_ | refine tc fun AA BB hA hB => ?_); first | (refine go ?_; (first | refine hA ?_ | refine hB ?_); clear hA hB AA BB) | (refine go2 ?_ ?_ <;> intro hb <;> (first | refine hA ?_ | refine hB ?_) <;> clear hA hB AA BB <;> (try simp only [hb, decide_true, decide_false]) <;> (try (exfalso; first | (simp at hb; done) | (simp at hb; omega))))) | (with_reducible refine skS ?_; simp only [upd_mk]) | with_reducible refine tdr fun KT hT => ?_ | with_reducible refine bY ?_)
     all_goals clear fx)
    all_goals (refine fe ?_; try exact trivial)
    all_goals simp_all [cont]

end Go.Proofs.YtmiclkgkfkcnoaaGreat
