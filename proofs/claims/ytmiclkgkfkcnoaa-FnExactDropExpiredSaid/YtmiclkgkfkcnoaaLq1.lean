/- The functions of this program, walked by the evaluator: part q, 1. -/
import Derived.Test.YtmiclkgkfkcnoaaLD
namespace Go.Proofs.Ytmiclkgkfkcnoaa
open Go.RowKit
set_option linter.unusedSimpArgs false
set_option linter.unusedVariables false
set_option maxRecDepth 100000
set_option linter.defProp false
namespace GLq1
def gx := And.intro (@hopRow.eq_1) (And.intro (@polRow.eq_1) (And.intro (@segRow.eq_1) (And.intro (@intRow.eq_1) (And.intro (@rowLen_ints) (And.intro (@rowLen_nil) (And.intro (@rowLen_cons) (And.intro (@rowLen_append) (And.intro (@lenL_app) (And.intro (@byteRow.eq_1) (And.intro (@rowLen_bytes) (And.intro (@bytesOf_map) (And.intro (@bytesOf_cons) (And.intro (@bytesOf_one) (And.intro (@rowLen_strs) (And.intro (@asRow.eq_1) (And.intro (@lkRow.eq_1) (And.intro (@tpRow.eq_1) (And.intro (@rowLen_hops) (And.intro (@rowLen_ases) (And.intro (@rowLen_links) (And.intro (@bcRow.eq_1) (And.intro (@rowLen_bcs) (@u8Row.eq_1)))))))))))))))))))))))
end GLq1
open GLq1
set_option maxHeartbeats 2000000 in
theorem markHopS_ok (l : List Hp) (k : Int) (hk : 0 ≤ k) (hk' : k + 5 * l.length < 4611686018427387904) : MCall Try.prog 119 [.fs 0, .int .i64 k] [l.map hopRow] (.int .i64 (k + 5 * l.length)) [(marks mkH 5 k l.length).map hopRow] := by
  refine mcall_mk Try.func119 rfl Try.ntmps119 Try.results119 (by kernel_rfl) (by simp) (by decide) rfl (by simp) rfl ?_ ?_ ?_
  rotate_left 2
  simp only [args, backL, back, pinIds, pinL, Nat.zero_add, Nat.reduceAdd, bB]
  · repeat' (first | with_reducible refine go ?_ | with_reducible refine t_region fun KT hT => ?_ | (refine gp fun KK hK => ?_; first | (refine ⟨by first | exact eq_hop, ?_⟩; (first | refine hK _ _ ?_ | refine hK _ (nz ?_)); clear hK KK) | ((repeat refine And.intro (by first | omega | (rw [getD_map_lt (by omega)]; rfl) | (simp; first | done | omega)) ?_); first | (refine hK _ _ ?_; clear hK KK) | (refine hK _ ?_; clear hK KK; try simp only [upd_mk]))) | ((with_reducible first | refine o_nil (hT _ _ ?_) | refine h_nil (hT _ ?_)); clear hT KT) | ((first | refine gd fun AA BB hA hB => ?_ | refine tc fun AA BB hA hB => ?_); first | (refine go ?_; (first | refine hA ?_ | refine hB ?_); clear hA hB AA BB) | (refine go2 ?_ ?_ <;> intro hb <;> (first | refine hA ?_ | refine hB ?_) <;> clear hA hB AA BB <;> (try simp only [hb, decide_true, decide_false]) <;> (try (exfalso; first | (simp at hb; done) | (simp at hb; omega))))) | (with_reducible refine skS ?_; simp only [upd_mk]) | with_reducible refine tdr fun KT hT => ?_ | with_reducible refine bY ?_)
    refine t_loop (fun j : Nat => [(0, .fs 900), (1, .int .i64 (k + (5 : Int) * j)), (5, .int .i64 j)]) (fun j => [(900, .row (mixM hopRow mkH 5 k l j))]) (fun j => j ≤ l.length) (fun j => l.length - j) 0 (imp_keep (by simp [Keep, mk]) (by simp [KeepT, mkT, mixM_zero]) rfl) (Nat.zero_le _) ?_
    intro j hj
    rcases Nat.lt_or_ge j l.length with h | h
    · have e1 : decide ((j : Int) < (l.length : Int)) = true := by simpa using h
      have e2 := mixM_get (f := hopRow) (mk := mkH) (s := 5) (k := k) h
      have e3 := mixM_len (f := hopRow) (mk := mkH) (s := 5) (k := k) hj
      have e4 := mixM_put (f := hopRow) (mk := mkH) (s := 5) (k := k) h
      have w0 : IntKind.i64.wrap (k + (5 : Int) * j + 1) = k + (5 : Int) * j + 1 := wr64 (by omega) (by omega)
      have w1 : IntKind.i64.wrap (k + (5 : Int) * j + 1 + 1) = k + (5 : Int) * j + 1 + 1 := wr64 (by omega) (by omega)
      have w2 : IntKind.i64.wrap (k + (5 : Int) * j + 1 + 1 + 1) = k + (5 : Int) * j + 1 + 1 + 1 := wr64 (by omega) (by omega)
      have w3 : IntKind.i64.wrap (k + (5 : Int) * j + 1 + 1 + 1 + 1) = k + (5 : Int) * j + 1 + 1 + 1 + 1 := wr64 (by omega) (by omega)
      have w4 : IntKind.i64.wrap (k + (5 : Int) * j + 1 + 1 + 1 + 1 + 1) = k + (5 : Int) * j + 1 + 1 + 1 + 1 + 1 := wr64 (by omega) (by omega)
      (have fx := And.intro (@e1) (And.intro (@e2) (And.intro (@e3) (And.intro (@e4) (And.intro (@h) (And.intro (@w0) (And.intro (@w1) (And.intro (@w2) (And.intro (@w3) (And.intro (@w4) (And.intro (@lenL_set) (@setL_set)))))))))))
       repeat' (first | with_reducible refine go ?_ | with_reducible refine t_region fun KT hT => ?_ | (refine gp fun KK hK => ?_; first | (refine ⟨by first | exact eq_hop, ?_⟩; (first | refine hK _ _ ?_ | refine hK _ (nz ?_)); clear hK KK) | ((repeat refine And.intro (by first | omega | (rw [getD_map_lt (by omega)]; rfl) | (simp; first | done | omega)) ?_); first | (refine hK _ _ ?_; clear hK KK) | (refine hK _ ?_; clear hK KK; try simp only [upd_mk]))) | ((with_reducible first | refine o_nil (hT _ _ ?_) | refine h_nil (hT _ ?_)); clear hT KT) | ((first | refine gd fun AA BB hA hB => ?_ | refine tc fun AA BB hA hB => ?_); first | (refine go ?_; (first | refine hA ?_ | refine hB ?_); clear hA hB AA BB) | (refine go2 ?_ ?_ <;> intro hb <;> (first | refine hA ?_ | refine hB ?_) <;> clear hA hB AA BB <;> (try simp only [hb, decide_true, decide_false]) <;> (try (exfalso; first | (simp at hb; done) | (simp at hb; omega))))) | (with_reducible refine skS ?_; simp only [upd_mk]) | with_reducible refine tdr fun KT hT => ?_ | with_reducible refine bY ?_)
       all_goals clear fx)
      refine k_rnd (j + 1) (imp_keep ?_ ?_ rfl) h (by omega)
      · simp [Keep, mk, wrapS (show j < 4611686018427387904 by omega)]
        omega
      · simp only [KeepT, mkT, if_true, and_true]
        exact congrArg (fun r => some (Ent.row r)) (mixM_set (f := hopRow) (mk := mkH) (s := 5) (k := k) h)
    · obtain rfl : j = l.length := by omega
      have e1 : decide ((l.length : Int) < (l.length : Int)) = false := by simp
      have e3 := mixM_len (f := hopRow) (mk := mkH) (s := 5) (k := k) hj
      (have fx := And.intro (@e1) (@e3)
       repeat' (first | with_reducible refine go ?_ | with_reducible refine t_region fun KT hT => ?_ | (refine gp fun KK hK => ?_; first | (refine ⟨by first | exact eq_hop, ?_⟩; (first | refine hK _ _ ?_ | refine hK _ (nz ?_)); clear hK KK) | ((repeat refine And.intro (by first | omega | (rw [getD_map_lt (by omega)]; rfl) | (simp; first | done | omega)) ?_); first | (refine hK _ _ ?_; clear hK KK) | (refine hK _ ?_; clear hK KK; try simp only [upd_mk]))) | ((with_reducible first | refine o_nil (hT _ _ ?_) | refine h_nil (hT _ ?_)); clear hT KT) | ((first | refine gd fun AA BB hA hB => ?_ | refine tc fun AA BB hA hB => ?_); first | (refine go ?_; (first | refine hA ?_ | refine hB ?_); clear hA hB AA BB) | (refine go2 ?_ ?_ <;> intro hb <;> (first | refine hA ?_ | refine hB ?_) <;> clear hA hB AA BB <;> (try simp only [hb, decide_true, decide_false]) <;> (try (exfalso; first | (simp at hb; done) | (simp at hb; omega))))) | (with_reducible refine skS ?_; simp only [upd_mk]) | with_reducible refine tdr fun KT hT => ?_ | with_reducible refine bY ?_)
       all_goals clear fx)
      refine (fin_m (by simp only [resQ, packD, callQ, viewL, view, noFsL, noFs, intsOf, Option.map_some, stp, hv, qv, ev, cD, scr, scrL, Ent.scr, flat, one, binQ, ldQ, storeQ, lay, Nat.reduceLT, Nat.reduceLeDiff, Nat.reduceAdd, Nat.reduceEqDiff, Nat.reduceMul, Nat.reduceSub, reduceIte, reduceCtorEq, fillQ, bne_iff_ne, Nat.reduceBNe, Nat.reduceBEq, rowsOf, cloL, clo, exists_eq_left', exists_and_left, appendQ, partsQ, Int.cast_ofNat_Int, Int.reduceBEq, Int.reduceBNe, Int.reduceLT, Int.reduceLE, Int.reduceEq, Int.reduceNe, Int.reduceAdd, Int.reduceSub, Int.reduceNeg, Int.reduceToNat, decide_true, decide_false, ne_eq, not_false_eq_true, true_and, and_true, Nat.add_zero, Nat.zero_add, Nat.not_lt_zero, Bool.not_true, Bool.not_false, Int.le_refl, bA, bB, ti3, ti29, ti72, hopRow, polRow, segRow, intRow, rowLen_ints, rowLen_nil, rowLen_cons, rowLen_append, List.length_append, byteRow, rowLen_bytes, bytesOf_map, bytesOf_cons, bytesOf_one, rowLen_strs, asRow, lkRow, tpRow, rowLen_hops, rowLen_ases, rowLen_links, bcRow, rowLen_bcs, u8Row, intRow]) ?_).1
      exact pin_one (by rw [← mixM_all]; rfl)
  · exact map_len_marks rfl
  · exact flat_one (flat_map (fun _ => rfl) _)

set_option maxHeartbeats 2000000 in
theorem heldHopS_ok (n : Nat) (k : Int) (hk : 0 ≤ k) (hk' : k + 5 * n < 4611686018427387904) : ACall Try.prog 120 [.sl ((marks mkH 5 k n).map hopRow), .int .i64 k] (.int .i64 (k + 5 * n)) [] := by
  have e0 := marks_len mkH 5 k n
  refine acall_mk Try.func120 rfl Try.ntmps120 Try.results120 (by kernel_rfl) (by simp) ?_
  simp only [args, Nat.zero_add, Nat.reduceAdd]
  repeat' (first | with_reducible refine go ?_ | with_reducible refine t_region fun KT hT => ?_ | (refine gp fun KK hK => ?_; first | (refine ⟨by first | exact eq_hop, ?_⟩; (first | refine hK _ _ ?_ | refine hK _ (nz ?_)); clear hK KK) | ((repeat refine And.intro (by first | omega | (rw [getD_map_lt (by omega)]; rfl) | (simp; first | done | omega)) ?_); first | (refine hK _ _ ?_; clear hK KK) | (refine hK _ ?_; clear hK KK; try simp only [upd_mk]))) | ((with_reducible first | refine o_nil (hT _ _ ?_) | refine h_nil (hT _ ?_)); clear hT KT) | ((first | refine gd fun AA BB hA hB => ?_ | refine tc fun AA BB hA hB => ?_); first | (refine go ?_; (first | refine hA ?_ | refine hB ?_); clear hA hB AA BB) | (refine go2 ?_ ?_ <;> intro hb <;> (first | refine hA ?_ | refine hB ?_) <;> clear hA hB AA BB <;> (try simp only [hb, decide_true, decide_false]) <;> (try (exfalso; first | (simp at hb; done) | (simp at hb; omega))))) | (with_reducible refine skS ?_; simp only [upd_mk]) | with_reducible refine tdr fun KT hT => ?_ | with_reducible refine bY ?_)
  refine t_loop (fun j : Nat => [(0, .sl ((marks mkH 5 k n).map hopRow)), (1, .int .i64 (k + (5 : Int) * j)), (5, .int .i64 j)]) (fun j => []) (fun j => j ≤ n) (fun j => n - j) 0 (imp_keep (by simp [Keep, mk]) trivial rfl) (Nat.zero_le _) ?_
  intro j hj
  rcases Nat.lt_or_ge j n with h | h
  · have e1 : decide ((j : Int) < (n : Int)) = true := by simpa using h
    have e2 := marks_get (f := hopRow) mkH 5 k h
    simp only [mkH] at e2
    have w0 : IntKind.i64.wrap (k + (5 : Int) * j + 1) = k + (5 : Int) * j + 1 := wr64 (by omega) (by omega)
    have w1 : IntKind.i64.wrap (k + (5 : Int) * j + 1 + 1) = k + (5 : Int) * j + 1 + 1 := wr64 (by omega) (by omega)
    have w2 : IntKind.i64.wrap (k + (5 : Int) * j + 1 + 1 + 1) = k + (5 : Int) * j + 1 + 1 + 1 := wr64 (by omega) (by omega)
    have w3 : IntKind.i64.wrap (k + (5 : Int) * j + 1 + 1 + 1 + 1) = k + (5 : Int) * j + 1 + 1 + 1 + 1 := wr64 (by omega) (by omega)
    have w4 : IntKind.i64.wrap (k + (5 : Int) * j + 1 + 1 + 1 + 1 + 1) = k + (5 : Int) * j + 1 + 1 + 1 + 1 + 1 := wr64 (by omega) (by omega)
    (have fx := And.intro (@e0) (And.intro (@e1) (And.intro (@e2) (And.intro (@h) (And.intro (@w0) (And.intro (@w1) (And.intro (@w2) (And.intro (@w3) (And.intro (@w4) (And.intro (@bneI_self) (@beqI_self))))))))))
     repeat' (first | with_reducible refine go ?_ | with_reducible refine t_region fun KT hT => ?_ | (refine gp fun KK hK => ?_; first | (refine ⟨by first | exact eq_hop, ?_⟩; (first | refine hK _ _ ?_ | refine hK _ (nz ?_)); clear hK KK) | ((repeat refine And.intro (by first | omega | (rw [getD_map_lt (by omega)]; rfl) | (simp; first | done | omega)) ?_); first | (refine hK _ _ ?_; clear hK KK) | (refine hK _ ?_; clear hK KK; try simp only [upd_mk]))) | ((with_reducible first | refine o_nil (hT _ _ ?_) | refine h_nil (hT _ ?_)); clear hT KT) | ((first | refine gd fun AA BB hA hB => ?_ | refine tc fun AA BB hA hB => ?_); first | (refine go ?_; (first | refine hA ?_ | refine hB ?_); clear hA hB AA BB) | (refine go2 ?_ ?_ <;> intro hb <;> (first | refine hA ?_ | refine hB ?_) <;> clear hA hB AA BB <;> (try simp only [hb, decide_true, decide_false]) <;> (try (exfalso; first | (simp at hb; done) | (simp at hb; omega))))) | (with_reducible refine skS ?_; simp only [upd_mk]) | with_reducible refine tdr fun KT hT => ?_ | with_reducible refine bY ?_)
     all_goals clear fx)
    refine k_rnd (j + 1) (imp_keep ?_ trivial rfl) h (by omega)
    simp [Keep, mk, wrapS (show j < 4611686018427387904 by omega)]
    omega
  · obtain rfl : j = n := by omega
    have e1 : decide ((j : Int) < (j : Int)) = false := by simp
    (have fx := And.intro (@e0) (@e1)
     repeat' (first | with_reducible refine go ?_ | with_reducible refine t_region fun KT hT => ?_ | (refine gp fun KK hK => ?_; first | (refine ⟨by first | exact eq_hop, ?_⟩; (first | refine hK _ _ ?_ | refine hK _ (nz ?_)); clear hK KK) | ((repeat refine And.intro (by first | omega | (rw [getD_map_lt (by omega)]; rfl) | (simp; first | done | omega)) ?_); first | (refine hK _ _ ?_; clear hK KK) | (refine hK _ ?_; clear hK KK; try simp only [upd_mk]))) | ((with_reducible first | refine o_nil (hT _ _ ?_) | refine h_nil (hT _ ?_)); clear hT KT) | ((first | refine gd fun AA BB hA hB => ?_ | refine tc fun AA BB hA hB => ?_); first | (refine go ?_; (first | refine hA ?_ | refine hB ?_); clear hA hB AA BB) | (refine go2 ?_ ?_ <;> intro hb <;> (first | refine hA ?_ | refine hB ?_) <;> clear hA hB AA BB <;> (try simp only [hb, decide_true, decide_false]) <;> (try (exfalso; first | (simp at hb; done) | (simp at hb; omega))))) | (with_reducible refine skS ?_; simp only [upd_mk]) | with_reducible refine tdr fun KT hT => ?_ | with_reducible refine bY ?_)
     all_goals clear fx)
    (refine fe ?_; try exact trivial)

end Go.Proofs.Ytmiclkgkfkcnoaa
