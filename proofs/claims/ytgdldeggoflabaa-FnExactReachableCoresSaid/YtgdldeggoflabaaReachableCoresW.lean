/- The walk of the law FnExactReachableCores. -/
import Derived.Test.YtgdldeggoflabaaRows
import Derived.WalkKit
import Derived.ProofKit
import Derived.OpenShut
import Derived.ShutString
import Derived.ChangeOld
import Derived.Below
import Derived.Test.YtgdldeggoflabaaLq2
import Derived.Test.YtgdldeggoflabaaLr1
import Derived.Test.YtgdldeggoflabaaLza3
namespace Go.Proofs.Ytgdldeggoflabaa
open Go.ChangeShapes Go.WideShapes Go.ChangeAt Go.RowKit
open Go.ChangeMaps (open_string shut_string)
set_option linter.unusedVariables false
set_option linter.unusedSimpArgs false
set_option maxRecDepth 100000
set_option linter.defProp false
set_option synthInstance.maxHeartbeats 2000000
namespace GWReachableCores
def gx := And.intro (@hopRow.eq_1) (And.intro (@polRow.eq_1) (And.intro (@segRow.eq_1) (And.intro (@intRow.eq_1) (And.intro (@rowLen_ints) (And.intro (@rowLen_nil) (And.intro (@rowLen_cons) (And.intro (@rowLen_append) (And.intro (@lenL_app) (And.intro (@byteRow.eq_1) (And.intro (@rowLen_bytes) (And.intro (@bytesOf_map) (And.intro (@bytesOf_cons) (And.intro (@bytesOf_one) (And.intro (@rowLen_strs) (And.intro (@asRow.eq_1) (And.intro (@lkRow.eq_1) (And.intro (@tpRow.eq_1) (And.intro (@rowLen_hops) (And.intro (@rowLen_ases) (And.intro (@rowLen_links) (And.intro (@bcRow.eq_1) (And.intro (@rowLen_bcs) (@u8Row.eq_1)))))))))))))))))))))))
end GWReachableCores
open GWReachableCores

set_option maxHeartbeats 8000000 in
theorem fnExactReachableCores_law {x0 : List D} (i0 : IsL [.slice [.int .i64, .bool, .int .i64], .slice [.int .i64, .int .i64, .int .i64, .int .i64, .int .i64]] x0) {x1 : D} (i1 : IsC (.int .i64) x1) : ACall Try.prog 7 [.agg x0, x1] (.bool true) [] := by
  obtain ⟨t, rfl, ⟨hm, hm'⟩, wt⟩ := isTpW i0
  obtain ⟨r, rfl⟩ := isInt i1
  unfold maxLen at hm hm'
  have c := szTopology_ok t 1048576 (by omega) (by omega) (by omega)
  by_cases hl : (1048576 : Int) - t.ases.length - t.links.length < 0
  · rw [szTp, if_pos hl] at c
    refine acall_mk Try.func7 rfl Try.ntmps7 Try.results7 (by kernel_rfl) (by simp) ?_
    simp only [args, Nat.zero_add, Nat.reduceAdd]
    repeat' (first | with_reducible refine go ?_ | with_reducible refine t_region fun KT hT => ?_ | (refine gp fun KK hK => ?_; first | (refine hK _ _ ?_; clear hK KK) | (refine hK _ ?_; clear hK KK; try simp only [upd_mk]) | ((with_reducible first | refine .inl ⟨_, _, ⟨c, rfl, csq⟩, hK _ _ (nz ?_)⟩ | refine ⟨_, ⟨c, rfl, rfl, csq⟩, hK _ (nz ?_)⟩); clear hK KK) | (refine ⟨by first | exact eq_hop, hK _ _ ?_⟩; clear hK KK) | (refine ⟨by first | exact eq_hop, hK _ (nz ?_)⟩; clear hK KK) | ((repeat refine And.intro (by first | omega | (rw [getD_map_lt (by omega)]; rfl) | (simp; first | done | omega)) ?_); first | (refine hK _ _ ?_; clear hK KK) | (refine hK _ ?_; clear hK KK; try simp only [upd_mk]))) | ((with_reducible first | refine o_nil (hT _ _ ?_) | refine h_nil (hT _ ?_)); clear hT KT) | ((first | refine gd fun AA BB hA hB => ?_ | refine tc fun AA BB hA hB => ?_); first | (refine go ?_; (first | refine hA ?_ | refine hB ?_); clear hA hB AA BB) | (refine go2 ?_ ?_ <;> intro hb <;> (first | refine hA ?_ | refine hB ?_) <;> clear hA hB AA BB <;> (try simp only [hb, decide_true, decide_false]) <;> (try (exfalso; first | (simp at hb; done) | (simp at hb; omega))))) | (with_reducible refine skS ?_; simp only [upd_mk]) | with_reducible refine tdr fun KT hT => ?_ | with_reducible refine bY ?_)
    all_goals (refine fe ?_; try exact trivial)
  · rw [szTp, if_neg hl] at c
    have h1 : t.ases.length ≤ 1048576 := by omega
    have h2 : t.links.length ≤ 1048576 := by omega
    have e0 : decide ((1048576 : Int) - t.ases.length - t.links.length < 0) = false := decide_eq_false hl
    have e1 : decide ((1 : Int) + 3 * t.ases.length + 5 * t.links.length < 0) = false := decide_eq_false (by omega)
    have co := rCores_i t r h1 h2
    have ci := (rCores_i t r h1 h2).ro
    have cs := rCores_so t r h1 h2
    simp only [view, viewL, tabOf, List.getElem?_cons_zero, List.getElem?_cons_succ, Option.map_some] at ci
    have hg : (rCores t r).length ≤ 16 := rCores_len t r
    generalize rCores t r = g at *
    have e3 : decide ((1 : Int) + 1 * g.length < 0) = false := decide_eq_false (by omega)
    have e4 : ((1 : Int) + 1 * g.length != 1 + 1 * g.length) = false := by simp
    have ce := eqIntS_ok g g (by omega)
    refine acall_mk Try.func7 rfl Try.ntmps7 Try.results7 (by kernel_rfl) (by simp) ?_
    simp only [args, Nat.zero_add, Nat.reduceAdd]
    (have fx := And.intro (@e0) (And.intro (@e1) (And.intro (@e3) (@e4)))
     repeat' (first | with_reducible refine go ?_ | with_reducible refine t_region fun KT hT => ?_ | (refine gp fun KK hK => ?_; first | (refine hK _ _ ?_; clear hK KK) | (refine hK _ ?_; clear hK KK; try simp only [upd_mk]) | ((with_reducible first | refine .inl ⟨_, _, ⟨c, rfl, csq⟩, hK _ _ (nz ?_)⟩ | refine .inl ⟨_, _, ⟨toTopology_own t h1 h2, rfl, csq⟩, hK _ _ (nz ?_)⟩ | refine .inl ⟨_, _, ⟨toTopology_ro t h1 h2, rfl, csq⟩, hK _ _ (nz ?_)⟩ | refine .inl ⟨_, _, ⟨cs, rfl, csq⟩, hK _ _ (nz ?_)⟩ | refine .inl ⟨_, _, ⟨co, rfl, csq⟩, hK _ _ (nz ?_)⟩ | refine .inl ⟨_, _, ⟨ci, rfl, csq⟩, hK _ _ (nz ?_)⟩ | refine .inl ⟨_, _, ⟨eqTopology_ok t t h1 h2, rfl, csq⟩, hK _ _ (nz ?_)⟩ | refine .inl ⟨_, _, ⟨ce, rfl, csq⟩, hK _ _ (nz ?_)⟩ | refine .inl ⟨_, _, ⟨heldIntS_ok g.length 1 (by omega) (by omega), rfl, csq⟩, hK _ _ (nz ?_)⟩ | refine ⟨_, ⟨c, rfl, rfl, csq⟩, hK _ (nz ?_)⟩ | refine ⟨_, ⟨toTopology_own t h1 h2, rfl, rfl, csq⟩, hK _ (nz ?_)⟩ | refine ⟨_, ⟨toTopology_ro t h1 h2, rfl, rfl, csq⟩, hK _ (nz ?_)⟩ | refine ⟨_, ⟨cs, rfl, rfl, csq⟩, hK _ (nz ?_)⟩ | refine ⟨_, ⟨co, rfl, rfl, csq⟩, hK _ (nz ?_)⟩ | refine ⟨_, ⟨ci, rfl, rfl, csq⟩, hK _ (nz ?_)⟩ | refine ⟨_, ⟨eqTopology_ok t t h1 h2, rfl, rfl, csq⟩, hK _ (nz ?_)⟩ | refine ⟨_, ⟨ce, rfl, rfl, csq⟩, hK _ (nz ?_)⟩ | refine ⟨_, ⟨heldIntS_ok g.length 1 (by omega) (by omega), rfl, rfl, csq⟩, hK _ (nz ?_)⟩); clear hK KK) | ((first | refine .inr (.inl (markTopology_at t 1 (by omega) (by omega) (by decide) rfl rfl (hK _ _ (nz ?_)))) | refine .inr (.inl (markIntS_at g 1 (by omega) (by omega) rfl (hK _ _ (nz ?_))))); clear hK KK) | (refine ⟨by first | exact eq_hop, hK _ _ ?_⟩; clear hK KK) | (refine ⟨by first | exact eq_hop, hK _ (nz ?_)⟩; clear hK KK) | ((repeat refine And.intro (by first | omega | (rw [getD_map_lt (by omega)]; rfl) | (simp; first | done | omega)) ?_); first | (refine hK _ _ ?_; clear hK KK) | (refine hK _ ?_; clear hK KK; try simp only [upd_mk]))) | ((with_reducible first | refine o_nil (hT _ _ ?_) | refine h_nil (hT _ ?_)); clear hT KT) | ((first | refine gd fun AA BB hA hB => ?_ | refine tc fun AA BB hA hB => ?_); first | (refine go ?_; (first | refine hA ?_ | refine hB ?_); clear hA hB AA BB) | (refine go2 ?_ ?_ <;> intro hb <;> (first | refine hA ?_ | refine hB ?_) <;> clear hA hB AA BB <;> (try simp only [hb, decide_true, decide_false]) <;> (try (exfalso; first | (simp at hb; done) | (simp at hb; omega))))) | (with_reducible refine skS ?_; simp only [upd_mk]) | with_reducible refine tdr fun KT hT => ?_ | with_reducible refine bY ?_)
     all_goals clear fx)
    all_goals (refine fe ?_; try exact trivial)
    all_goals simp_all

end Go.Proofs.Ytgdldeggoflabaa
