/- The walk of the law FnExactReadSegment. -/
import Derived.Test.YtgdldeggoflabaaRows
import Derived.WalkKit
import Derived.ProofKit
import Derived.OpenShut
import Derived.ShutString
import Derived.ChangeOld
import Derived.Below
import Derived.Test.YtgdldeggoflabaaLr1
import Derived.Test.YtgdldeggoflabaaLs1
import Derived.Test.YtgdldeggoflabaaLzg2
namespace Go.Proofs.Ytgdldeggoflabaa
open Go.ChangeShapes Go.WideShapes Go.ChangeAt Go.RowKit
open Go.ChangeMaps (open_string shut_string)
set_option linter.unusedVariables false
set_option linter.unusedSimpArgs false
set_option maxRecDepth 100000
set_option linter.defProp false
set_option synthInstance.maxHeartbeats 2000000
namespace GWReadSegment
def gx := And.intro (@hopRow.eq_1) (And.intro (@polRow.eq_1) (And.intro (@segRow.eq_1) (And.intro (@intRow.eq_1) (And.intro (@rowLen_ints) (And.intro (@rowLen_nil) (And.intro (@rowLen_cons) (And.intro (@rowLen_append) (And.intro (@lenL_app) (And.intro (@byteRow.eq_1) (And.intro (@rowLen_bytes) (And.intro (@bytesOf_map) (And.intro (@bytesOf_cons) (And.intro (@bytesOf_one) (And.intro (@rowLen_strs) (And.intro (@asRow.eq_1) (And.intro (@lkRow.eq_1) (And.intro (@tpRow.eq_1) (And.intro (@rowLen_hops) (And.intro (@rowLen_ases) (And.intro (@rowLen_links) (And.intro (@bcRow.eq_1) (And.intro (@rowLen_bcs) (@u8Row.eq_1)))))))))))))))))))))))
end GWReadSegment
open GWReadSegment

set_option maxHeartbeats 8000000 in
theorem fnExactReadSegment_law {x0 : D} (i0 : IsC (.slice [.int .u8]) x0) {x1 : D} (i1 : IsC (.int .i64) x1) : ACall Try.prog 9 [x0, x1] (.bool true) [] := by
  obtain ⟨b, rfl, hm⟩ := isBytes i0
  obtain ⟨i, rfl⟩ := isInt i1
  unfold maxLen at hm
  by_cases hl : b.length ≤ 1048576
  · have e0 : decide ((1048576 : Int) < (b.length : Int)) = false := decide_eq_false (by omega)
    have e2 : decide ((1 : Int) + (b.length : Int) < 0) = false := decide_eq_false (by omega)
    cases hr : rdSeg b i with
    | none =>
      have ci := rdSeg0_i b i (by omega) hr
      have csp := rdSeg0_s b i (by omega) hr
      have ce := eqSegment_ok ⟨0, 0, []⟩ ⟨0, 0, []⟩ (by simp)
      simp only [segRow, List.map_nil] at ce
      refine acall_mk Try.func9 rfl Try.ntmps9 Try.results9 (by kernel_rfl) (by simp) ?_
      simp only [args, Nat.zero_add, Nat.reduceAdd]
      (have fx := And.intro (@e0) (And.intro (@e2) (And.intro (@beqI_self) (@bneI_self)))
       repeat' (first | with_reducible refine go ?_ | with_reducible refine t_region fun KT hT => ?_ | (refine gp fun KK hK => ?_; first | (refine hK _ _ ?_; clear hK KK) | (refine hK _ ?_; clear hK KK; try simp only [upd_mk]) | ((with_reducible first | refine .inl ⟨_, _, ⟨toByteS_own b hl, rfl, csq⟩, hK _ _ (nz ?_)⟩ | refine .inl ⟨_, _, ⟨toByteS_ro b hl, rfl, csq⟩, hK _ _ (nz ?_)⟩ | refine .inl ⟨_, _, ⟨ci, rfl, csq⟩, hK _ _ (nz ?_)⟩ | refine .inl ⟨_, _, ⟨csp, rfl, csq⟩, hK _ _ (nz ?_)⟩ | refine .inl ⟨_, _, ⟨ce, rfl, csq⟩, hK _ _ (nz ?_)⟩ | refine .inl ⟨_, _, ⟨eqByteS_ok b b (by omega), rfl, csq⟩, hK _ _ (nz ?_)⟩ | refine .inl ⟨_, _, ⟨markSegment_nil 0 0 1, rfl, csq⟩, hK _ _ (nz ?_)⟩ | refine .inl ⟨_, _, ⟨heldSegment_nil 0 0 1 (by omega) (by omega), rfl, csq⟩, hK _ _ (nz ?_)⟩ | refine ⟨_, ⟨toByteS_own b hl, rfl, rfl, csq⟩, hK _ (nz ?_)⟩ | refine ⟨_, ⟨toByteS_ro b hl, rfl, rfl, csq⟩, hK _ (nz ?_)⟩ | refine ⟨_, ⟨ci, rfl, rfl, csq⟩, hK _ (nz ?_)⟩ | refine ⟨_, ⟨csp, rfl, rfl, csq⟩, hK _ (nz ?_)⟩ | refine ⟨_, ⟨ce, rfl, rfl, csq⟩, hK _ (nz ?_)⟩ | refine ⟨_, ⟨eqByteS_ok b b (by omega), rfl, rfl, csq⟩, hK _ (nz ?_)⟩ | refine ⟨_, ⟨markSegment_nil 0 0 1, rfl, rfl, csq⟩, hK _ (nz ?_)⟩ | refine ⟨_, ⟨heldSegment_nil 0 0 1 (by omega) (by omega), rfl, rfl, csq⟩, hK _ (nz ?_)⟩); clear hK KK) | ((first | refine .inr (.inl (markByteS_atB b 1 (by omega) (by omega) rfl (hK _ _ (nz ?_))))); clear hK KK) | (refine ⟨by first | exact eq_hop, hK _ _ ?_⟩; clear hK KK) | (refine ⟨by first | exact eq_hop, hK _ (nz ?_)⟩; clear hK KK) | ((repeat refine And.intro (by first | omega | (rw [getD_map_lt (by omega)]; rfl) | (simp; first | done | omega)) ?_); first | (refine hK _ _ ?_; clear hK KK) | (refine hK _ ?_; clear hK KK; try simp only [upd_mk]))) | ((with_reducible first | refine o_nil (hT _ _ ?_) | refine h_nil (hT _ ?_)); clear hT KT) | ((first | refine gd fun AA BB hA hB => ?_ | refine tc fun AA BB hA hB => ?_); first | (refine go ?_; (first | refine hA ?_ | refine hB ?_); clear hA hB AA BB) | (refine go2 ?_ ?_ <;> intro hb <;> (first | refine hA ?_ | refine hB ?_) <;> clear hA hB AA BB <;> (try simp only [hb, decide_true, decide_false]) <;> (try (exfalso; first | (simp at hb; done) | (simp at hb; omega))))) | (with_reducible refine skS ?_; simp only [upd_mk]) | with_reducible refine tdr fun KT hT => ?_ | with_reducible refine bY ?_)
       all_goals clear fx)
      all_goals (refine fe ?_; try exact trivial)
      all_goals simp_all
    | some p =>
      obtain ⟨s, z⟩ := p
      have ci := rdSeg_i b i (by omega) s z hr
      have csp := rdSeg_s b i (by omega) s z hr
      have hH : s.hops.length ≤ 8 := by
        have : encodable s = true := by
          unfold rdSeg at hr
          repeat' split at hr
          all_goals first | (cases hr; done) | skip
          rename_i hq
          simp only [Option.some.injEq, Prod.mk.injEq] at hr
          rw [← hr.1]; exact hq
        simp only [encodable, Bool.and_eq_true, decide_eq_true_eq] at this
        exact this.1.2
      have ce := eqSegment_ok s s (by omega)
      simp only [segRow] at ce
      have e3 : decide ((1 : Int) + 5 * s.hops.length < 0) = false := decide_eq_false (by omega)
      have e4 : ((1 : Int) + 5 * s.hops.length != 1 + 5 * s.hops.length) = false := by simp
      generalize hg : s.hops = g at *
      refine acall_mk Try.func9 rfl Try.ntmps9 Try.results9 (by kernel_rfl) (by simp) ?_
      simp only [args, Nat.zero_add, Nat.reduceAdd]
      (have fx := And.intro (@e0) (And.intro (@e2) (And.intro (@e3) (And.intro (@e4) (And.intro (@beqI_self) (@bneI_self)))))
       repeat' (first | with_reducible refine go ?_ | with_reducible refine t_region fun KT hT => ?_ | (refine gp fun KK hK => ?_; first | (refine hK _ _ ?_; clear hK KK) | (refine hK _ ?_; clear hK KK; try simp only [upd_mk]) | ((with_reducible first | refine .inl ⟨_, _, ⟨toByteS_own b hl, rfl, csq⟩, hK _ _ (nz ?_)⟩ | refine .inl ⟨_, _, ⟨toByteS_ro b hl, rfl, csq⟩, hK _ _ (nz ?_)⟩ | refine .inl ⟨_, _, ⟨ci, rfl, csq⟩, hK _ _ (nz ?_)⟩ | refine .inl ⟨_, _, ⟨csp, rfl, csq⟩, hK _ _ (nz ?_)⟩ | refine .inl ⟨_, _, ⟨ce, rfl, csq⟩, hK _ _ (nz ?_)⟩ | refine .inl ⟨_, _, ⟨eqByteS_ok b b (by omega), rfl, csq⟩, hK _ _ (nz ?_)⟩ | refine .inl ⟨_, _, ⟨heldSegment_ok s.ts s.beta g.length 1 (by omega) (by omega), rfl, csq⟩, hK _ _ (nz ?_)⟩ | refine ⟨_, ⟨toByteS_own b hl, rfl, rfl, csq⟩, hK _ (nz ?_)⟩ | refine ⟨_, ⟨toByteS_ro b hl, rfl, rfl, csq⟩, hK _ (nz ?_)⟩ | refine ⟨_, ⟨ci, rfl, rfl, csq⟩, hK _ (nz ?_)⟩ | refine ⟨_, ⟨csp, rfl, rfl, csq⟩, hK _ (nz ?_)⟩ | refine ⟨_, ⟨ce, rfl, rfl, csq⟩, hK _ (nz ?_)⟩ | refine ⟨_, ⟨eqByteS_ok b b (by omega), rfl, rfl, csq⟩, hK _ (nz ?_)⟩ | refine ⟨_, ⟨heldSegment_ok s.ts s.beta g.length 1 (by omega) (by omega), rfl, rfl, csq⟩, hK _ (nz ?_)⟩); clear hK KK) | ((first | refine .inr (.inl (markByteS_atB b 1 (by omega) (by omega) rfl (hK _ _ (nz ?_)))) | refine .inr (.inl (markSegment_at2 s.ts s.beta g 1 (by omega) (by omega) rfl (hK _ _ (nz ?_))))); clear hK KK) | (refine ⟨by first | exact eq_hop, hK _ _ ?_⟩; clear hK KK) | (refine ⟨by first | exact eq_hop, hK _ (nz ?_)⟩; clear hK KK) | ((repeat refine And.intro (by first | omega | (rw [getD_map_lt (by omega)]; rfl) | (simp; first | done | omega)) ?_); first | (refine hK _ _ ?_; clear hK KK) | (refine hK _ ?_; clear hK KK; try simp only [upd_mk]))) | ((with_reducible first | refine o_nil (hT _ _ ?_) | refine h_nil (hT _ ?_)); clear hT KT) | ((first | refine gd fun AA BB hA hB => ?_ | refine tc fun AA BB hA hB => ?_); first | (refine go ?_; (first | refine hA ?_ | refine hB ?_); clear hA hB AA BB) | (refine go2 ?_ ?_ <;> intro hb <;> (first | refine hA ?_ | refine hB ?_) <;> clear hA hB AA BB <;> (try simp only [hb, decide_true, decide_false]) <;> (try (exfalso; first | (simp at hb; done) | (simp at hb; omega))))) | (with_reducible refine skS ?_; simp only [upd_mk]) | with_reducible refine tdr fun KT hT => ?_ | with_reducible refine bY ?_)
       all_goals clear fx)
      all_goals (refine fe ?_; try exact trivial)
      all_goals simp_all
  · have e0 : decide ((1048576 : Int) < (b.length : Int)) = true := decide_eq_true (by omega)
    refine acall_mk Try.func9 rfl Try.ntmps9 Try.results9 (by kernel_rfl) (by simp) ?_
    simp only [args, Nat.zero_add, Nat.reduceAdd]
    (have fx := (@e0)
     repeat' (first | with_reducible refine go ?_ | with_reducible refine t_region fun KT hT => ?_ | (refine gp fun KK hK => ?_; first | (refine hK _ _ ?_; clear hK KK) | (refine hK _ ?_; clear hK KK; try simp only [upd_mk]) | (refine ⟨by first | exact eq_hop, hK _ _ ?_⟩; clear hK KK) | (refine ⟨by first | exact eq_hop, hK _ (nz ?_)⟩; clear hK KK) | ((repeat refine And.intro (by first | omega | (rw [getD_map_lt (by omega)]; rfl) | (simp; first | done | omega)) ?_); first | (refine hK _ _ ?_; clear hK KK) | (refine hK _ ?_; clear hK KK; try simp only [upd_mk]))) | ((with_reducible first | refine o_nil (hT _ _ ?_) | refine h_nil (hT _ ?_)); clear hT KT) | ((first | refine gd fun AA BB hA hB => ?_ | refine tc fun AA BB hA hB => ?_); first | (refine go ?_; (first | refine hA ?_ | refine hB ?_); clear hA hB AA BB) | (refine go2 ?_ ?_ <;> intro hb <;> (first | refine hA ?_ | refine hB ?_) <;> clear hA hB AA BB <;> (try simp only [hb, decide_true, decide_false]) <;> (try (exfalso; first | (simp at hb; done) | (simp at hb; omega))))) | (with_reducible refine skS ?_; simp only [upd_mk]) | with_reducible refine tdr fun KT hT => ?_ | with_reducible refine bY ?_)
     all_goals clear fx)
    all_goals (refine fe ?_; try exact trivial)

end Go.Proofs.Ytgdldeggoflabaa
