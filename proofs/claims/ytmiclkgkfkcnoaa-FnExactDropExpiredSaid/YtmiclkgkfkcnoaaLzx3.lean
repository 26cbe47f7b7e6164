/- The functions of this program, walked by the evaluator: part zx, 3. -/
import Derived.Test.YtmiclkgkfkcnoaaLq1
import Derived.Test.YtmiclkgkfkcnoaaLD
namespace Go.Proofs.Ytmiclkgkfkcnoaa
open Go.RowKit
set_option linter.unusedSimpArgs false
set_option linter.unusedVariables false
set_option maxRecDepth 100000
set_option linter.defProp false
namespace GLzx3
def gx := And.intro (@hopRow.eq_1) (And.intro (@polRow.eq_1) (And.intro (@segRow.eq_1) (And.intro (@intRow.eq_1) (And.intro (@rowLen_ints) (And.intro (@rowLen_nil) (And.intro (@rowLen_cons) (And.intro (@rowLen_append) (And.intro (@lenL_app) (And.intro (@byteRow.eq_1) (And.intro (@rowLen_bytes) (And.intro (@bytesOf_map) (And.intro (@bytesOf_cons) (And.intro (@bytesOf_one) (And.intro (@rowLen_strs) (And.intro (@asRow.eq_1) (And.intro (@lkRow.eq_1) (And.intro (@tpRow.eq_1) (And.intro (@rowLen_hops) (And.intro (@rowLen_ases) (And.intro (@rowLen_links) (And.intro (@bcRow.eq_1) (And.intro (@rowLen_bcs) (@u8Row.eq_1)))))))))))))))))))))))
end GLzx3
open GLzx3
set_option maxHeartbeats 8000000 in
theorem heldBcs (bs : List Bc) (k : Int) (hk : 0 ≤ k) (hk' : endB bs k < 4611686018427387904) : ACall Try.prog 29 [.sl ((markB bs k).map bcRow), .int .i64 k] (.int .i64 (endB bs k)) [] := by
  have e0 : (markB bs k).length = bs.length := markB_len bs k
  have hbl : bs.length < 4611686018427387904 := by
    have : (0 : Int) ≤ 5 * (szB bs : Int) := by omega
    simp only [endB] at hk'
    omega
  refine acall_mk Try.func29 rfl Try.ntmps29 Try.results29 (by kernel_rfl) (by simp) ?_
  simp only [args, Nat.zero_add, Nat.reduceAdd]
  repeat' (first | with_reducible refine go ?_ | with_reducible refine t_region fun KT hT => ?_ | (refine gp fun KK hK => ?_; first | (refine ⟨by first | exact eq_hop | exact eq_pol, ?_⟩; (first | refine hK _ _ ?_ | refine hK _ (nz ?_)); clear hK KK) | ((repeat refine And.intro (by first | omega | (rw [getD_map_lt (by omega)]; rfl) | (simp; first | done | omega)) ?_); first | (refine hK _ _ ?_; clear hK KK) | (refine hK _ ?_; clear hK KK; try simp only [upd_mk]))) | ((with_reducible first | refine o_nil (hT _ _ ?_) | refine h_nil (hT _ ?_)); clear hT KT) | ((first | refine gd fun AA BB hA hB => ?_ | refine tc fun AA BB hA hB => ?_); first | (refine go ?_; (first | refine hA ?_ | refine hB ?_); clear hA hB AA BB) | (refine go2 ?_ ?_ <;> intro hb <;> (first | refine hA ?_ | refine hB ?_) <;> clear hA hB AA BB <;> (try simp only [hb, decide_true, decide_false]) <;> (try (exfalso; first | (simp at hb; done) | (simp at hb; omega))))) | (with_reducible refine skS ?_; simp only [upd_mk]) | with_reducible refine tdr fun KT hT => ?_ | with_reducible refine bY ?_)
  refine t_loop (fun j : Nat => [(0, .sl ((markB bs k).map bcRow)), (1, .int .i64 (endB (bs.take j) k)), (5, .int .i64 j)]) (fun j => []) (fun j => j ≤ bs.length) (fun j => bs.length - j) 0 (imp_keep (by simp [Keep, mk, endB, szB]) trivial rfl) (Nat.zero_le _) ?_
  intro j hj
  rcases Nat.lt_or_ge j bs.length with h | h
  · have e1 : decide ((j : Int) < (bs.length : Int)) = true := by simpa using h
    have e2 := markB_get bs k j h
    simp only [bcRow, mk1] at e2
    have eE := endB_step (k := k) h
    have b1 := endB_take (bs := bs) (k := k) (j + 1)
    have b2 := endB_le (bs := bs.take j) (k := k)
    have ch := heldHopS_ok bs[j].seg.hops.length (endB (bs.take j) k + 1 + 1 + 1) (by omega) (by omega)
    generalize bs[j] = b at *
    generalize endB (bs.take j) k = x at *
    have w0 : IntKind.i64.wrap (x + 1) = x + 1 := wr64 (by omega) (by omega)
    have w1 : IntKind.i64.wrap (x + 1 + 1) = x + 1 + 1 := wr64 (by omega) (by omega)
    have w2 : IntKind.i64.wrap (x + 1 + 1 + 1) = x + 1 + 1 + 1 := wr64 (by omega) (by omega)
    have f1 : decide (x + 1 + 1 + 1 + 5 * (b.seg.hops.length : Int) < 0) = false := decide_eq_false (by omega)
    (have fx := And.intro (@e0) (And.intro (@e1) (And.intro (@e2) (And.intro (@h) (And.intro (@w0) (And.intro (@w1) (And.intro (@w2) (And.intro (@f1) (And.intro (@bneI_self) (@beqI_self)))))))))
     repeat' (first | with_reducible refine go ?_ | with_reducible refine t_region fun KT hT => ?_ | (refine gp fun KK hK => ?_; first | ((with_reducible first | refine .inl ⟨_, _, ⟨ch, rfl, csq⟩, hK _ _ (nz ?_)⟩ | refine ⟨_, ⟨ch, rfl, rfl, csq⟩, hK _ (nz ?_)⟩); clear hK KK) | (refine ⟨by first | exact eq_hop | exact eq_pol, ?_⟩; (first | refine hK _ _ ?_ | refine hK _ (nz ?_)); clear hK KK) | ((repeat refine And.intro (by first | omega | (rw [getD_map_lt (by omega)]; rfl) | (simp; first | done | omega)) ?_); first | (refine hK _ _ ?_; clear hK KK) | (refine hK _ ?_; clear hK KK; try simp only [upd_mk]))) | ((with_reducible first | refine o_nil (hT _ _ ?_) | refine h_nil (hT _ ?_)); clear hT KT) | ((first | refine gd fun AA BB hA hB => ?_ | refine tc fun AA BB hA hB => ?_); first | (refine go ?_; (first | refine hA ?_ | refine hB ?_); clear hA hB AA BB) | (refine go2 ?_ ?_ <;> intro hb <;> (first | refine hA ?_ | refine hB ?_) <;> clear hA hB AA BB <;> (try simp only [hb, decide_true, decide_false]) <;> (try (exfalso; first | (simp at hb; done) | (simp at hb; omega))))) | (with_reducible refine skS ?_; simp only [upd_mk]) | with_reducible refine tdr fun KT hT => ?_ | with_reducible refine bY ?_)
     all_goals clear fx)
    refine k_rnd (j + 1) (imp_keep ?_ trivial rfl) h (by omega)
    simp [Keep, mk, wrapS (show j < 4611686018427387904 by omega)]
    omega
  · obtain rfl : j = bs.length := by omega
    have e1 : decide ((bs.length : Int) < (bs.length : Int)) = false := by simp
    (have fx := And.intro (@e0) (@e1)
     repeat' (first | with_reducible refine go ?_ | with_reducible refine t_region fun KT hT => ?_ | (refine gp fun KK hK => ?_; first | (refine ⟨by first | exact eq_hop | exact eq_pol, ?_⟩; (first | refine hK _ _ ?_ | refine hK _ (nz ?_)); clear hK KK) | ((repeat refine And.intro (by first | omega | (rw [getD_map_lt (by omega)]; rfl) | (simp; first | done | omega)) ?_); first | (refine hK _ _ ?_; clear hK KK) | (refine hK _ ?_; clear hK KK; try simp only [upd_mk]))) | ((with_reducible first | refine o_nil (hT _ _ ?_) | refine h_nil (hT _ ?_)); clear hT KT) | ((first | refine gd fun AA BB hA hB => ?_ | refine tc fun AA BB hA hB => ?_); first | (refine go ?_; (first | refine hA ?_ | refine hB ?_); clear hA hB AA BB) | (refine go2 ?_ ?_ <;> intro hb <;> (first | refine hA ?_ | refine hB ?_) <;> clear hA hB AA BB <;> (try simp only [hb, decide_true, decide_false]) <;> (try (exfalso; first | (simp at hb; done) | (simp at hb; omega))))) | (with_reducible refine skS ?_; simp only [upd_mk]) | with_reducible refine tdr fun KT hT => ?_ | with_reducible refine bY ?_)
     all_goals clear fx)
    (refine (fin_closed ?_).1; simp only [resQ, packD, callQ, viewL, view, noFsL, noFs, intsOf, Option.map_some, stp, hv, qv, ev, cD, scr, scrL, Ent.scr, flat, one, binQ, ldQ, storeQ, lay, Nat.reduceLT, Nat.reduceLeDiff, Nat.reduceAdd, Nat.reduceEqDiff, Nat.reduceMul, Nat.reduceSub, reduceIte, reduceCtorEq, fillQ, bne_iff_ne, Nat.reduceBNe, Nat.reduceBEq, rowsOf, cloL, clo, exists_eq_left', exists_and_left, appendQ, partsQ, Int.cast_ofNat_Int, Int.reduceBEq, Int.reduceBNe, Int.reduceLT, Int.reduceLE, Int.reduceEq, Int.reduceNe, Int.reduceAdd, Int.reduceSub, Int.reduceNeg, Int.reduceToNat, decide_true, decide_false, ne_eq, not_false_eq_true, true_and, and_true, Nat.add_zero, Nat.zero_add, Nat.not_lt_zero, Bool.not_true, Bool.not_false, Int.le_refl, bA, bB, ti3, ti28, ti29, ti31, ti33, ti72, hopRow, polRow, segRow, intRow, rowLen_ints, rowLen_nil, rowLen_cons, rowLen_append, List.length_append, byteRow, rowLen_bytes, bytesOf_map, bytesOf_cons, bytesOf_one, rowLen_strs, asRow, lkRow, tpRow, rowLen_hops, rowLen_ases, rowLen_links, bcRow, rowLen_bcs, u8Row, intRow, byteRow, List.take_length])

end Go.Proofs.Ytmiclkgkfkcnoaa
