/- The functions of this program, walked by the evaluator: part h, 1. -/
import Derived.Test.YtmiclkgkfkcnoaaGreatLb1
import Derived.Test.YtmiclkgkfkcnoaaGreatLd1
import Derived.Test.YtmiclkgkfkcnoaaGreatLD
namespace Go.Proofs.YtmiclkgkfkcnoaaGreat
open Go.RowKit
set_option linter.unusedSimpArgs false
set_option linter.unusedVariables false
set_option maxRecDepth 100000
set_option linter.defProp false
namespace GLh1
def gx := And.intro (@hopRow.eq_1) (And.intro (@polRow.eq_1) (And.intro (@segRow.eq_1) (And.intro (@intRow.eq_1) (And.intro (@rowLen_ints) (And.intro (@rowLen_nil) (And.intro (@rowLen_cons) (And.intro (@rowLen_append) (And.intro (@lenL_app) (And.intro (@byteRow.eq_1) (And.intro (@rowLen_bytes) (And.intro (@bytesOf_map) (And.intro (@bytesOf_cons) (And.intro (@bytesOf_one) (And.intro (@rowLen_strs) (And.intro (@asRow.eq_1) (And.intro (@lkRow.eq_1) (And.intro (@tpRow.eq_1) (And.intro (@rowLen_hops) (And.intro (@rowLen_ases) (@rowLen_links))))))))))))))))))))
end GLh1
open GLh1
theorem realm_s (t : Tp) (r : Int) (h1 : t.ases.length ≤ 1048576) : ACall Tryz.prog 43 [.agg (tpRow t), .int .i64 r] (.bool (realm t r)) [] := by
  have e0 : IntKind.i64.wrap ((t.ases.length : Int) - 1) = (t.ases.length : Int) - 1 := wr64 (by omega) (by omega)
  refine acall_mk Tryz.func43 rfl Tryz.ntmps43 Tryz.results43 (by kernel_rfl) (by simp) ?_
  simp only [args, Nat.zero_add, Nat.reduceAdd]
  (have fx := (@e0)
   repeat' (first | with_reducible refine go ?_ | with_reducible refine t_region fun KT hT => ?_ | (refine gp fun KK hK => ?_; first | ((with_reducible first | refine .inl ⟨_, _, ⟨l1In_s _ _ _, rfl, csq⟩, hK _ _ (nz ?_)⟩ | refine ⟨_, ⟨l1In_s _ _ _, rfl, rfl, csq⟩, hK _ (nz ?_)⟩); clear hK KK) | (refine ⟨by first | exact eq_hop, ?_⟩; (first | refine hK _ _ ?_ | refine hK _ (nz ?_)); clear hK KK) | ((repeat refine And.intro (by first | omega | (rw [getD_map_lt (by omega)]; rfl) | (simp; first | done | omega)) ?_); first | (refine hK _ _ ?_; clear hK KK) | (refine hK _ ?_; clear hK KK; try simp only [upd_mk]))) | ((with_reducible first | refine o_nil (hT _ _ ?_) | refine h_nil (hT _ ?_)); clear hT KT) | ((first | refine gd fun AA BB hA hB => ?_ | refine tc fun AA BB hA hB => ?_); first | (refine go ?_; (first | refine hA ?_ | refine hB ?_); clear hA hB AA BB) | (refine go2 ?_ ?_ <;> intro hb <;> (first | refine hA ?_ | refine hB ?_) <;> clear hA hB AA BB <;> (try simp only [hb, decide_true, decide_false]) <;> (try (exfalso; first | (simp at hb; done) | (simp at hb; omega))))) | (with_reducible refine skS ?_; simp only [upd_mk]) | with_reducible refine tdr fun KT hT => ?_ | with_reducible refine bY ?_)
   all_goals clear fx)
  (refine (fin_closed ?_).1; simp only [resQ, packD, callQ, viewL, view, noFsL, noFs, intsOf, Option.map_some, stp, hv, qv, ev, cD, scr, scrL, Ent.scr, flat, one, binQ, ldQ, storeQ, lay, Nat.reduceLT, Nat.reduceLeDiff, Nat.reduceAdd, Nat.reduceEqDiff, Nat.reduceMul, Nat.reduceSub, reduceIte, reduceCtorEq, fillQ, bne_iff_ne, Nat.reduceBNe, Nat.reduceBEq, rowsOf, cloL, clo, exists_eq_left', exists_and_left, appendQ, partsQ, Int.cast_ofNat_Int, Int.reduceBEq, Int.reduceBNe, Int.reduceLT, Int.reduceLE, Int.reduceEq, Int.reduceNe, Int.reduceAdd, Int.reduceSub, Int.reduceNeg, Int.reduceToNat, decide_true, decide_false, ne_eq, not_false_eq_true, true_and, and_true, Nat.add_zero, Nat.zero_add, Nat.not_lt_zero, Bool.not_true, Bool.not_false, Int.le_refl, bA, bB, ti3, ti24, ti27, ti84, hopRow, polRow, segRow, intRow, rowLen_ints, rowLen_nil, rowLen_cons, rowLen_append, List.length_append, byteRow, rowLen_bytes, bytesOf_map, bytesOf_cons, bytesOf_one, rowLen_strs, asRow, lkRow, tpRow, rowLen_hops, rowLen_ases, rowLen_links, e0])
  all_goals rfl

theorem realm_i (t : Tp) (r : Int) (h1 : t.ases.length ≤ 1048576) : ACall Tryz.prog 38 [.agg (tpRow t), .int .i64 r] (.bool (realm t r)) [] := by
  have e0 : IntKind.i64.wrap ((t.ases.length : Int) - 1) = (t.ases.length : Int) - 1 := wr64 (by omega) (by omega)
  refine acall_mk Tryz.func38 rfl Tryz.ntmps38 Tryz.results38 (by kernel_rfl) (by simp) ?_
  simp only [args, Nat.zero_add, Nat.reduceAdd]
  (have fx := (@e0)
   repeat' (first | with_reducible refine go ?_ | with_reducible refine t_region fun KT hT => ?_ | (refine gp fun KK hK => ?_; first | ((with_reducible first | refine .inl ⟨_, _, ⟨inRange_i _ _ _, rfl, csq⟩, hK _ _ (nz ?_)⟩ | refine ⟨_, ⟨inRange_i _ _ _, rfl, rfl, csq⟩, hK _ (nz ?_)⟩); clear hK KK) | (refine ⟨by first | exact eq_hop, ?_⟩; (first | refine hK _ _ ?_ | refine hK _ (nz ?_)); clear hK KK) | ((repeat refine And.intro (by first | omega | (rw [getD_map_lt (by omega)]; rfl) | (simp; first | done | omega)) ?_); first | (refine hK _ _ ?_; clear hK KK) | (refine hK _ ?_; clear hK KK; try simp only [upd_mk]))) | ((with_reducible first | refine o_nil (hT _ _ ?_) | refine h_nil (hT _ ?_)); clear hT KT) | ((first | refine gd fun AA BB hA hB => ?_ | refine tc fun AA BB hA hB => ?_); first | (refine go ?_; (first | refine hA ?_ | refine hB ?_); clear hA hB AA BB) | (refine go2 ?_ ?_ <;> intro hb <;> (first | refine hA ?_ | refine hB ?_) <;> clear hA hB AA BB <;> (try simp only [hb, decide_true, decide_false]) <;> (try (exfalso; first | (simp at hb; done) | (simp at hb; omega))))) | (with_reducible refine skS ?_; simp only [upd_mk]) | with_reducible refine tdr fun KT hT => ?_ | with_reducible refine bY ?_)
   all_goals clear fx)
  (refine (fin_closed ?_).1; simp only [resQ, packD, callQ, viewL, view, noFsL, noFs, intsOf, Option.map_some, stp, hv, qv, ev, cD, scr, scrL, Ent.scr, flat, one, binQ, ldQ, storeQ, lay, Nat.reduceLT, Nat.reduceLeDiff, Nat.reduceAdd, Nat.reduceEqDiff, Nat.reduceMul, Nat.reduceSub, reduceIte, reduceCtorEq, fillQ, bne_iff_ne, Nat.reduceBNe, Nat.reduceBEq, rowsOf, cloL, clo, exists_eq_left', exists_and_left, appendQ, partsQ, Int.cast_ofNat_Int, Int.reduceBEq, Int.reduceBNe, Int.reduceLT, Int.reduceLE, Int.reduceEq, Int.reduceNe, Int.reduceAdd, Int.reduceSub, Int.reduceNeg, Int.reduceToNat, decide_true, decide_false, ne_eq, not_false_eq_true, true_and, and_true, Nat.add_zero, Nat.zero_add, Nat.not_lt_zero, Bool.not_true, Bool.not_false, Int.le_refl, bA, bB, ti3, ti24, ti27, ti84, hopRow, polRow, segRow, intRow, rowLen_ints, rowLen_nil, rowLen_cons, rowLen_append, List.length_append, byteRow, rowLen_bytes, bytesOf_map, bytesOf_cons, bytesOf_one, rowLen_strs, asRow, lkRow, tpRow, rowLen_hops, rowLen_ases, rowLen_links, e0])
  all_goals rfl

theorem verHop_i (t : Tp) (ts be : Int) (h : Hp) (h1 : t.ases.length ≤ 1048576) : ACall Tryz.prog 73 [.agg (tpRow t), .int .i64 ts, .int .i64 be, .agg (hopRow h)] (.bool (verHop t ts be h)) [] := by
  by_cases hh : realm t h.asn = true
  · have hr := realm_lt hh
    have e1 := getD_map_lt (f := asRow) hr.2
    refine acall_mk Tryz.func73 rfl Tryz.ntmps73 Tryz.results73 (by kernel_rfl) (by simp) ?_
    simp only [args, Nat.zero_add, Nat.reduceAdd]
    (have fx := And.intro (@hh) (And.intro (@e1) (@hr))
     repeat' (first | with_reducible refine go ?_ | with_reducible refine t_region fun KT hT => ?_ | (refine gp fun KK hK => ?_; first | ((with_reducible first | refine .inl ⟨_, _, ⟨validHop_i h, rfl, csq⟩, hK _ _ (nz ?_)⟩ | refine .inl ⟨_, _, ⟨realm_i t _ h1, rfl, csq⟩, hK _ _ (nz ?_)⟩ | refine .inl ⟨_, _, ⟨hopMac_i _ _ _ h, rfl, csq⟩, hK _ _ (nz ?_)⟩ | refine ⟨_, ⟨validHop_i h, rfl, rfl, csq⟩, hK _ (nz ?_)⟩ | refine ⟨_, ⟨realm_i t _ h1, rfl, rfl, csq⟩, hK _ (nz ?_)⟩ | refine ⟨_, ⟨hopMac_i _ _ _ h, rfl, rfl, csq⟩, hK _ (nz ?_)⟩); clear hK KK) | (refine ⟨by first | exact eq_hop, ?_⟩; (first | refine hK _ _ ?_ | refine hK _ (nz ?_)); clear hK KK) | ((repeat refine And.intro (by first | omega | (rw [getD_map_lt (by omega)]; rfl) | (simp; first | done | omega)) ?_); first | (refine hK _ _ ?_; clear hK KK) | (refine hK _ ?_; clear hK KK; try simp only [upd_mk]))) | ((with_reducible first | refine o_nil (hT _ _ ?_) | refine h_nil (hT _ ?_)); clear hT KT) | ((first | refine gd fun AA BB hA hB => ?_ | refine tc fun AA BB hA hB => ?_); first | (refine go ?_; (first | refine hA ?_ | refine hB ?_); clear hA hB AA BB) | (refine go2 ?_ ?_ <;> intro hb <;> (first | refine hA ?_ | refine hB ?_) <;> clear hA hB AA BB <;> (try simp only [hb, decide_true, decide_false]) <;> (try (exfalso; first | (simp at hb; done) | (simp at hb; omega))))) | (with_reducible refine skS ?_; simp only [upd_mk]) | with_reducible refine tdr fun KT hT => ?_ | with_reducible refine bY ?_)
     all_goals clear fx)
    all_goals (refine fe ?_; try exact trivial)
    all_goals simp_all [verHop]
  · have hh' : realm t h.asn = false := by simpa using hh
    refine acall_mk Tryz.func73 rfl Tryz.ntmps73 Tryz.results73 (by kernel_rfl) (by simp) ?_
    simp only [args, Nat.zero_add, Nat.reduceAdd]
    (have fx := (@hh')
     repeat' (first | with_reducible refine go ?_ | with_reducible refine t_region fun KT hT => ?_ | (refine gp fun KK hK => ?_; first | ((with_reducible first | refine .inl ⟨_, _, ⟨validHop_i h, rfl, csq⟩, hK _ _ (nz ?_)⟩ | refine .inl ⟨_, _, ⟨realm_i t _ h1, rfl, csq⟩, hK _ _ (nz ?_)⟩ | refine .inl ⟨_, _, ⟨hopMac_i _ _ _ h, rfl, csq⟩, hK _ _ (nz ?_)⟩ | refine ⟨_, ⟨validHop_i h, rfl, rfl, csq⟩, hK _ (nz ?_)⟩ | refine ⟨_, ⟨realm_i t _ h1, rfl, rfl, csq⟩, hK _ (nz ?_)⟩ | refine ⟨_, ⟨hopMac_i _ _ _ h, rfl, rfl, csq⟩, hK _ (nz ?_)⟩); clear hK KK) | (refine ⟨by first | exact eq_hop, ?_⟩; (first | refine hK _ _ ?_ | refine hK _ (nz ?_)); clear hK KK) | ((repeat refine And.intro (by first | omega | (rw [getD_map_lt (by omega)]; rfl) | (simp; first | done | omega)) ?_); first | (refine hK _ _ ?_; clear hK KK) | (refine hK _ ?_; clear hK KK; try simp only [upd_mk]))) | ((with_reducible first | refine o_nil (hT _ _ ?_) | refine h_nil (hT _ ?_)); clear hT KT) | ((first | refine gd fun AA BB hA hB => ?_ | refine tc fun AA BB hA hB => ?_); first | (refine go ?_; (first | refine hA ?_ | refine hB ?_); clear hA hB AA BB) | (refine go2 ?_ ?_ <;> intro hb <;> (first | refine hA ?_ | refine hB ?_) <;> clear hA hB AA BB <;> (try simp only [hb, decide_true, decide_false]) <;> (try (exfalso; first | (simp at hb; done) | (simp at hb; omega))))) | (with_reducible refine skS ?_; simp only [upd_mk]) | with_reducible refine tdr fun KT hT => ?_ | with_reducible refine bY ?_)
     all_goals clear fx)
    all_goals (refine fe ?_; try exact trivial)
    all_goals simp_all [verHop]

theorem verHop_s (t : Tp) (ts be : Int) (h : Hp) (h1 : t.ases.length ≤ 1048576) : ACall Tryz.prog 90 [.agg (tpRow t), .int .i64 ts, .int .i64 be, .agg (hopRow h)] (.bool (verHop t ts be h)) [] := by
  by_cases hh : realm t h.asn = true
  · have hr := realm_lt hh
    have e1 := getD_map_lt (f := asRow) hr.2
    refine acall_mk Tryz.func90 rfl Tryz.ntmps90 Tryz.results90 (by kernel_rfl) (by simp) ?_
    simp only [args, Nat.zero_add, Nat.reduceAdd]
    (have fx := And.intro (@hh) (And.intro (@e1) (@hr))
     repeat' (first | with_reducible refine go ?_ | with_reducible refine t_region fun KT hT => ?_ | (refine gp fun KK hK => ?_; first | ((with_reducible first | refine .inl ⟨_, _, ⟨validHop_s h, rfl, csq⟩, hK _ _ (nz ?_)⟩ | refine .inl ⟨_, _, ⟨realm_s t _ h1, rfl, csq⟩, hK _ _ (nz ?_)⟩ | refine .inl ⟨_, _, ⟨hopMac_s _ _ _ h, rfl, csq⟩, hK _ _ (nz ?_)⟩ | refine ⟨_, ⟨validHop_s h, rfl, rfl, csq⟩, hK _ (nz ?_)⟩ | refine ⟨_, ⟨realm_s t _ h1, rfl, rfl, csq⟩, hK _ (nz ?_)⟩ | refine ⟨_, ⟨hopMac_s _ _ _ h, rfl, rfl, csq⟩, hK _ (nz ?_)⟩); clear hK KK) | (refine ⟨by first | exact eq_hop, ?_⟩; (first | refine hK _ _ ?_ | refine hK _ (nz ?_)); clear hK KK) | ((repeat refine And.intro (by first | omega | (rw [getD_map_lt (by omega)]; rfl) | (simp; first | done | omega)) ?_); first | (refine hK _ _ ?_; clear hK KK) | (refine hK _ ?_; clear hK KK; try simp only [upd_mk]))) | ((with_reducible first | refine o_nil (hT _ _ ?_) | refine h_nil (hT _ ?_)); clear hT KT) | ((first | refine gd fun AA BB hA hB => ?_ | refine tc fun AA BB hA hB => ?_); first | (refine go ?_; (first | refine hA ?_ | refine hB ?_); clear hA hB AA BB) | (refine go2 ?_ ?_ <;> intro hb <;> (first | refine hA ?_ | refine hB ?_) <;> clear hA hB AA BB <;> (try simp only [hb, decide_true, decide_false]) <;> (try (exfalso; first | (simp at hb; done) | (simp at hb; omega))))) | (with_reducible refine skS ?_; simp only [upd_mk]) | with_reducible refine tdr fun KT hT => ?_ | with_reducible refine bY ?_)
     all_goals clear fx)
    all_goals (refine fe ?_; try exact trivial)
    all_goals simp_all [verHop]
  · have hh' : realm t h.asn = false := by simpa using hh
    refine acall_mk Tryz.func90 rfl Tryz.ntmps90 Tryz.results90 (by kernel_rfl) (by simp) ?_
    simp only [args, Nat.zero_add, Nat.reduceAdd]
    (have fx := (@hh')
     repeat' (first | with_reducible refine go ?_ | with_reducible refine t_region fun KT hT => ?_ | (refine gp fun KK hK => ?_; first | ((with_reducible first | refine .inl ⟨_, _, ⟨validHop_s h, rfl, csq⟩, hK _ _ (nz ?_)⟩ | refine .inl ⟨_, _, ⟨realm_s t _ h1, rfl, csq⟩, hK _ _ (nz ?_)⟩ | refine .inl ⟨_, _, ⟨hopMac_s _ _ _ h, rfl, csq⟩, hK _ _ (nz ?_)⟩ | refine ⟨_, ⟨validHop_s h, rfl, rfl, csq⟩, hK _ (nz ?_)⟩ | refine ⟨_, ⟨realm_s t _ h1, rfl, rfl, csq⟩, hK _ (nz ?_)⟩ | refine ⟨_, ⟨hopMac_s _ _ _ h, rfl, rfl, csq⟩, hK _ (nz ?_)⟩); clear hK KK) | (refine ⟨by first | exact eq_hop, ?_⟩; (first | refine hK _ _ ?_ | refine hK _ (nz ?_)); clear hK KK) | ((repeat refine And.intro (by first | omega | (rw [getD_map_lt (by omega)]; rfl) | (simp; first | done | omega)) ?_); first | (refine hK _ _ ?_; clear hK KK) | (refine hK _ ?_; clear hK KK; try simp only [upd_mk]))) | ((with_reducible first | refine o_nil (hT _ _ ?_) | refine h_nil (hT _ ?_)); clear hT KT) | ((first | refine gd fun AA BB hA hB => ?_ | refine tc fun AA BB hA hB => ?_); first | (refine go ?_; (first | refine hA ?_ | refine hB ?_); clear hA hB AA BB) | (refine go2 ?_ ?_ <;> intro hb <;> (first | refine hA ?_ | refine hB ?_) <;> clear hA hB AA BB <;> (try simp only [hb, decide_true, decide_false]) <;> (try (exfalso; first | (simp at hb; done) | (simp at hb; omega))))) | (with_reducible refine skS ?_; simp only [upd_mk]) | with_reducible refine tdr fun KT hT => ?_ | with_reducible refine bY ?_)
     all_goals clear fx)
    all_goals (refine fe ?_; try exact trivial)
    all_goals simp_all [verHop]

end Go.Proofs.YtmiclkgkfkcnoaaGreat
