/- The functions of this program, walked by the evaluator: part zb, 1. -/
import Derived.Test.YtmiclkgkfkcnoaaGreatLD
namespace Go.Proofs.YtmiclkgkfkcnoaaGreat
open Go.RowKit
set_option linter.unusedSimpArgs false
set_option linter.unusedVariables false
set_option maxRecDepth 100000
set_option linter.defProp false
namespace GLzb1
def gx := And.intro (@hopRow.eq_1) (And.intro (@polRow.eq_1) (And.intro (@segRow.eq_1) (And.intro (@intRow.eq_1) (And.intro (@rowLen_ints) (And.intro (@rowLen_nil) (And.intro (@rowLen_cons) (And.intro (@rowLen_append) (And.intro (@lenL_app) (And.intro (@byteRow.eq_1) (And.intro (@rowLen_bytes) (And.intro (@bytesOf_map) (And.intro (@bytesOf_cons) (And.intro (@bytesOf_one) (And.intro (@rowLen_strs) (And.intro (@asRow.eq_1) (And.intro (@lkRow.eq_1) (And.intro (@tpRow.eq_1) (And.intro (@rowLen_hops) (And.intro (@rowLen_ases) (And.intro (@rowLen_links) (And.intro (@bcRow.eq_1) (And.intro (@rowLen_bcs) (@u8Row.eq_1)))))))))))))))))))))))
end GLzb1
open GLzb1
set_option maxHeartbeats 4000000 in
theorem putF_s (l : List Int) (n : Int) (hl : l.length ≤ 4194304) (hf : fnd l n = true) : ECall Tryz.prog 102 [.fs 0, .int .i64 n] [.row (l.map intRow)] 1 (fun _ : Unit => True) (fun _ => .fs 0) (fun _ => [.row (l.map intRow)]) := by
  refine ecall_mk Tryz.func102 rfl Tryz.ntmps102 Tryz.results102 (by kernel_rfl) (by simp) (by decide) (by simp) rfl rfl ?_
  simp only [args, pinE, bk, bkL, bkE, bkEs, setE, Nat.zero_add, Nat.reduceAdd, bA, bB]
  repeat' (first | with_reducible refine go ?_ | with_reducible refine t_region fun KT hT => ?_ | (refine gp fun KK hK => ?_; first | (refine ⟨by first | exact eq_hop, ?_⟩; (first | refine hK _ _ ?_ | refine hK _ (nz ?_)); clear hK KK) | ((repeat refine And.intro (by first | omega | (rw [getD_map_lt (by omega)]; rfl) | (simp; first | done | omega)) ?_); first | (refine hK _ _ ?_; clear hK KK) | (refine hK _ ?_; clear hK KK; try simp only [upd_mk]))) | ((with_reducible first | refine o_nil (hT _ _ ?_) | refine h_nil (hT _ ?_)); clear hT KT) | ((first | refine gd fun AA BB hA hB => ?_ | refine tc fun AA BB hA hB => ?_); first | (refine go ?_; (first | refine hA ?_ | refine hB ?_); clear hA hB AA BB) | (refine go2 ?_ ?_ <;> intro hb <;> (first | refine hA ?_ | refine hB ?_) <;> clear hA hB AA BB <;> (try simp only [hb, decide_true, decide_false]) <;> (try (exfalso; first | (simp at hb; done) | (simp at hb; omega))))) | (with_reducible refine skS ?_; simp only [upd_mk]) | with_reducible refine tdr fun KT hT => ?_ | with_reducible refine bY ?_)
  refine t_loop (fun k : Nat => [(0, .fs 1900), (1, .int .i64 n), (5, .int .i64 k)]) (fun _ => [(1900, .row (l.map intRow))]) (fun k => k ≤ l.length ∧ fnd (l.drop k) n = true) (fun k => l.length - k) 0 (imp_keep (by simp [Keep, mk]) (by simp [KeepT, mkT]) rfl) ⟨Nat.zero_le _, by simpa using hf⟩ ?_
  rintro k ⟨hk, hr⟩
  rcases Nat.lt_or_ge k l.length with h | h
  · have e1 : decide ((k : Int) < (l.length : Int)) = true := decide_eq_true (by omega)
    have e2 := getD_map_lt (f := intRow) h
    rw [fnd_drop h] at hr
    simp only [intRow] at e2
    generalize hx0 : l[k] = x at *
    rcases Int.lt_or_le x n with h3 | h3
    · have e3 : decide (x < n) = true := decide_eq_true h3
      rw [if_pos h3] at hr
      (have fx := And.intro (@e1) (And.intro (@e2) (And.intro (@e3) (@h)))
       repeat' (first | with_reducible refine go ?_ | with_reducible refine t_region fun KT hT => ?_ | (refine gp fun KK hK => ?_; first | (refine ⟨by first | exact eq_hop, ?_⟩; (first | refine hK _ _ ?_ | refine hK _ (nz ?_)); clear hK KK) | ((repeat refine And.intro (by first | omega | (rw [getD_map_lt (by omega)]; rfl) | (simp; first | done | omega)) ?_); first | (refine hK _ _ ?_; clear hK KK) | (refine hK _ ?_; clear hK KK; try simp only [upd_mk]))) | ((with_reducible first | refine o_nil (hT _ _ ?_) | refine h_nil (hT _ ?_)); clear hT KT) | ((first | refine gd fun AA BB hA hB => ?_ | refine tc fun AA BB hA hB => ?_); first | (refine go ?_; (first | refine hA ?_ | refine hB ?_); clear hA hB AA BB) | (refine go2 ?_ ?_ <;> intro hb <;> (first | refine hA ?_ | refine hB ?_) <;> clear hA hB AA BB <;> (try simp only [hb, decide_true, decide_false]) <;> (try (exfalso; first | (simp at hb; done) | (simp at hb; omega))))) | (with_reducible refine skS ?_; simp only [upd_mk]) | with_reducible refine tdr fun KT hT => ?_ | with_reducible refine bY ?_)
       all_goals clear fx)
      refine k_rnd (k + 1) (imp_keep ?_ ?_ rfl) ⟨h, hr⟩ (by omega)
      · simp [Keep, mk, wrapS (show k < 4611686018427387904 by omega)]
      · simp [KeepT, mkT]
    · have e3 : decide (x < n) = false := decide_eq_false (by omega)
      rw [if_neg (by omega)] at hr
      (have fx := And.intro (@e1) (And.intro (@e2) (And.intro (@e3) (And.intro (@hr) (@h))))
       repeat' (first | with_reducible refine go ?_ | with_reducible refine t_region fun KT hT => ?_ | (refine gp fun KK hK => ?_; first | (refine ⟨by first | exact eq_hop, ?_⟩; (first | refine hK _ _ ?_ | refine hK _ (nz ?_)); clear hK KK) | ((repeat refine And.intro (by first | omega | (rw [getD_map_lt (by omega)]; rfl) | (simp; first | done | omega)) ?_); first | (refine hK _ _ ?_; clear hK KK) | (refine hK _ ?_; clear hK KK; try simp only [upd_mk]))) | ((with_reducible first | refine o_nil (hT _ _ ?_) | refine h_nil (hT _ ?_)); clear hT KT) | ((first | refine gd fun AA BB hA hB => ?_ | refine tc fun AA BB hA hB => ?_); first | (refine go ?_; (first | refine hA ?_ | refine hB ?_); clear hA hB AA BB) | (refine go2 ?_ ?_ <;> intro hb <;> (first | refine hA ?_ | refine hB ?_) <;> clear hA hB AA BB <;> (try simp only [hb, decide_true, decide_false]) <;> (try (exfalso; first | (simp at hb; done) | (simp at hb; omega))))) | (with_reducible refine skS ?_; simp only [upd_mk]) | with_reducible refine tdr fun KT hT => ?_ | with_reducible refine bY ?_)
       all_goals clear fx)
      refine fin_e (()) [1900] (Imp.refl _ _ _) ?_ (by simp only [resQ, packD, frzP, frzT, frz, frzL, Ent.frz, bk, bkL, bkE, bkEs, callQ, viewL, view, noFsL, noFs, intsOf, Option.map_some, stp, hv, qv, ev, cD, scr, scrL, Ent.scr, flat, one, binQ, ldQ, storeQ, lay, Nat.reduceLT, Nat.reduceLeDiff, Nat.reduceAdd, Nat.reduceEqDiff, Nat.reduceMul, Nat.reduceSub, reduceIte, reduceCtorEq, fillQ, bne_iff_ne, Nat.reduceBNe, Nat.reduceBEq, rowsOf, cloL, clo, exists_eq_left', exists_and_left, appendQ, partsQ, Int.cast_ofNat_Int, Int.reduceBEq, Int.reduceBNe, Int.reduceLT, Int.reduceLE, Int.reduceEq, Int.reduceNe, Int.reduceAdd, Int.reduceSub, Int.reduceNeg, Int.reduceToNat, decide_true, decide_false, ne_eq, not_false_eq_true, true_and, and_true, Nat.add_zero, Nat.zero_add, Nat.not_lt_zero, Bool.not_true, Bool.not_false, Int.le_refl, bA, bB, bT, gx]; first | done | trivial | exact ⟨rfl, rfl⟩)
      trivial
  · rw [List.drop_of_length_le h] at hr
    simp [fnd] at hr

set_option maxHeartbeats 4000000 in
theorem putN_s (l : List Int) (n : Int) (hl : l.length ≤ 4194304) (hf : fnd l n = false) : ACall Tryz.prog 102 [.sl (l.map intRow), .int .i64 n] (.fs 0) [(putI l n).map intRow] := by
  refine acall_mk Tryz.func102 rfl Tryz.ntmps102 Tryz.results102 (by kernel_rfl) (by simp) ?_
  simp only [args, Nat.zero_add, Nat.reduceAdd]
  repeat' (first | with_reducible refine go ?_ | with_reducible refine t_region fun KT hT => ?_ | (refine gp fun KK hK => ?_; first | (refine ⟨by first | exact eq_hop, ?_⟩; (first | refine hK _ _ ?_ | refine hK _ (nz ?_)); clear hK KK) | ((repeat refine And.intro (by first | omega | (rw [getD_map_lt (by omega)]; rfl) | (simp; first | done | omega)) ?_); first | (refine hK _ _ ?_; clear hK KK) | (refine hK _ ?_; clear hK KK; try simp only [upd_mk]))) | ((with_reducible first | refine o_nil (hT _ _ ?_) | refine h_nil (hT _ ?_)); clear hT KT) | ((first | refine gd fun AA BB hA hB => ?_ | refine tc fun AA BB hA hB => ?_); first | (refine go ?_; (first | refine hA ?_ | refine hB ?_); clear hA hB AA BB) | (refine go2 ?_ ?_ <;> intro hb <;> (first | refine hA ?_ | refine hB ?_) <;> clear hA hB AA BB <;> (try simp only [hb, decide_true, decide_false]) <;> (try (exfalso; first | (simp at hb; done) | (simp at hb; omega))))) | (with_reducible refine skS ?_; simp only [upd_mk]) | with_reducible refine tdr fun KT hT => ?_ | with_reducible refine bY ?_)
  refine t_loop (fun k : Nat => [(0, .sl (l.map intRow)), (1, .int .i64 n), (5, .int .i64 k)]) (fun _ => []) (fun k => k ≤ l.length ∧ putI l n = l.take k ++ putI (l.drop k) n ∧ fnd (l.drop k) n = false) (fun k => l.length - k) 0 (imp_keep (by simp [Keep, mk]) trivial rfl) ⟨Nat.zero_le _, by simp, by simpa using hf⟩ ?_
  rintro k ⟨hk, hr, hn⟩
  have e5 : List.take k (l.map intRow) = (l.take k).map intRow := List.map_take.symm
  have e6 : List.take l.length (l.map intRow) = l.map intRow := List.take_of_length_le (by simp)
  have e7 : List.drop k (l.map intRow) = (l.drop k).map intRow := List.map_drop.symm
  have hf1 : FlatRows ((l.take k).map intRow ++ [[.int .i64 n]]) := flat_app (flat_map (fun _ => rfl) _) (flat_map (f := intRow) (fun _ => rfl) [n])
  have hf2 : FlatRows (((l.take k).map intRow ++ [[.int .i64 n]]) ++ (l.drop k).map intRow) := flat_app hf1 (flat_map (fun _ => rfl) _)
  rcases Nat.lt_or_ge k l.length with h | h
  · have e1 : decide ((k : Int) < (l.length : Int)) = true := decide_eq_true (by omega)
    have e2 := getD_map_lt (f := intRow) h
    rw [putI_drop h] at hr
    rw [fnd_drop h] at hn
    have hd := List.drop_eq_getElem_cons h
    simp only [intRow] at e2
    generalize hx0 : l[k] = x at *
    rcases Int.lt_or_le x n with h3 | h3
    · have e3 : decide (x < n) = true := decide_eq_true h3
      rw [if_pos h3] at hr hn
      (have fx := And.intro (@e1) (And.intro (@e2) (And.intro (@e3) (@h)))
       repeat' (first | with_reducible refine go ?_ | with_reducible refine t_region fun KT hT => ?_ | (refine gp fun KK hK => ?_; first | (refine ⟨by first | exact eq_hop, ?_⟩; (first | refine hK _ _ ?_ | refine hK _ (nz ?_)); clear hK KK) | ((repeat refine And.intro (by first | omega | (rw [getD_map_lt (by omega)]; rfl) | (simp; first | done | omega)) ?_); first | (refine hK _ _ ?_; clear hK KK) | (refine hK _ ?_; clear hK KK; try simp only [upd_mk]))) | ((with_reducible first | refine o_nil (hT _ _ ?_) | refine h_nil (hT _ ?_)); clear hT KT) | ((first | refine gd fun AA BB hA hB => ?_ | refine tc fun AA BB hA hB => ?_); first | (refine go ?_; (first | refine hA ?_ | refine hB ?_); clear hA hB AA BB) | (refine go2 ?_ ?_ <;> intro hb <;> (first | refine hA ?_ | refine hB ?_) <;> clear hA hB AA BB <;> (try simp only [hb, decide_true, decide_false]) <;> (try (exfalso; first | (simp at hb; done) | (simp at hb; omega))))) | (with_reducible refine skS ?_; simp only [upd_mk]) | with_reducible refine tdr fun KT hT => ?_ | with_reducible refine bY ?_)
       all_goals clear fx)
      refine k_rnd (k + 1) (imp_keep ?_ trivial rfl) ⟨h, ?_, hn⟩ (by omega)
      · simp [Keep, mk, wrapS (show k < 4611686018427387904 by omega)]
      · rw [hr, List.take_succ_eq_append_getElem h]
        simp [hx0]
    · have e3 : decide (x < n) = false := decide_eq_false (by omega)
      rw [if_neg (by omega)] at hr hn
      have hxn : x ≠ n := by simpa using hn
      (have fx := And.intro (@e1) (And.intro (@e2) (And.intro (@e3) (And.intro (@hn) (And.intro (@h) (And.intro (@e5) (And.intro (@e6) (And.intro (@e7) (And.intro (@boundQ_eq) (And.intro (@hk) (And.intro (@Nat.zero_le) (And.intro (@Nat.le_refl) (@rowLen_ints))))))))))))
       repeat' (first | with_reducible refine go ?_ | with_reducible refine t_region fun KT hT => ?_ | (refine kd 10 ?_; (first | with_reducible refine x_nil ?_ | with_reducible refine xt_nil ?_); simp only [realS_mk, realM_mk, pvS, pv, List.nil_append, List.cons_append]; try (refine hT _ _ ?_; clear hT KT)) | (with_reducible refine x_take ?_) | (refine kd 11 ?_; refine x_alloc (by first | exact congrArg TI.zero ti3 | exact congrArg TI.zero ti44) (by simp) (by rfl) (by rfl) (by decide) rfl rfl ?_; try simp only [upd_mk]) | (refine kd 12 ?_; refine x_empty (by first | exact congrArg TI.d ti3 | exact congrArg TI.d ti44) (by decide) (by rfl) (by decide) rfl rfl ?_; try simp only [upd_mk]) | (refine kd 13 ?_; refine x_append (by first | exact congrArg TI.d ti3 | exact congrArg TI.d ti44) (by decide) (by rfl) (by rfl) rfl (by simp) (by simp only [evV, ev, vw, view, viewL, cD, rowsOf, bA, bB, Nat.reduceEqDiff, reduceIte, bT, gx, fx]; rfl) (by first | exact rowLen_nil _ | exact rowLen_map (fun _ => rfl) | exact flat_map (fun _ => rfl) _ | exact flat_app (flat_map (fun _ => rfl) _) (flat_map (fun _ => rfl) _) | (simp only [rowLen_append, rowLen_cons, rowLen_nil]; done) | (simp [RowLen, FlatRows, scal]; done) | (intro r hr; simp at hr; rcases hr with hr | hr <;> first | (obtain ⟨a, _, rfl⟩ := hr; simp [scal]; done) | (subst hr; simp [scal]; done)) | assumption) (by first | exact rowLen_nil _ | exact rowLen_map (fun _ => rfl) | exact flat_map (fun _ => rfl) _ | exact flat_app (flat_map (fun _ => rfl) _) (flat_map (fun _ => rfl) _) | (simp only [rowLen_append, rowLen_cons, rowLen_nil]; done) | (simp [RowLen, FlatRows, scal]; done) | (intro r hr; simp at hr; rcases hr with hr | hr <;> first | (obtain ⟨a, _, rfl⟩ := hr; simp [scal]; done) | (subst hr; simp [scal]; done)) | assumption) (by simp; omega) (by simp; omega) (by first | exact rowLen_nil _ | exact rowLen_map (fun _ => rfl) | exact flat_map (fun _ => rfl) _ | exact flat_app (flat_map (fun _ => rfl) _) (flat_map (fun _ => rfl) _) | (simp only [rowLen_append, rowLen_cons, rowLen_nil]; done) | (simp [RowLen, FlatRows, scal]; done) | (intro r hr; simp at hr; rcases hr with hr | hr <;> first | (obtain ⟨a, _, rfl⟩ := hr; simp [scal]; done) | (subst hr; simp [scal]; done)) | assumption) (by decide) (by decide) rfl rfl ?_; try simp only [upd_mk, del_cons, del_nil, Nat.reduceEqDiff, reduceIte, bB]) | (refine gp fun KK hK => ?_; first | (refine ⟨by first | exact eq_hop, ?_⟩; (first | refine hK _ _ ?_ | refine hK _ (nz ?_)); clear hK KK) | ((repeat refine And.intro (by first | omega | (rw [getD_map_lt (by omega)]; rfl) | (simp; first | done | omega)) ?_); first | (refine hK _ _ ?_; clear hK KK) | (refine hK _ ?_; clear hK KK; try simp only [upd_mk]))) | ((with_reducible first | refine o_nil (hT _ _ ?_) | refine h_nil (hT _ ?_)); clear hT KT) | (with_reducible first | refine ht_nil ?_ | refine dq_succ ?_ | refine dq_f ?_ | refine dq_t ?_) | ((first | refine gd fun AA BB hA hB => ?_ | refine tc fun AA BB hA hB => ?_); first | (refine go ?_; (first | refine hA ?_ | refine hB ?_); clear hA hB AA BB) | (refine go2 ?_ ?_ <;> intro hb <;> (first | refine hA ?_ | refine hB ?_) <;> clear hA hB AA BB <;> (try simp only [hb, decide_true, decide_false]) <;> (try (exfalso; first | (simp at hb; done) | (simp at hb; omega))))) | (with_reducible refine skS ?_; simp only [upd_mk]) | (refine t_drawXT (id := 6) 11 (by kernel_rfl) (by decide) (by kernel_rfl) fun KT hT => ?_) | with_reducible refine tdr fun KT hT => ?_ | with_reducible refine bY ?_)
       all_goals clear fx)
      (refine fo [40] ?_; try exact trivial)
      refine ⟨rfl, rfl, ?_⟩
      rw [hr, if_neg hxn, hd]
      simp
  · have e1 : decide ((k : Int) < (l.length : Int)) = false := decide_eq_false (by omega)
    (have fx := And.intro (@e1) (And.intro (@e5) (And.intro (@e6) (And.intro (@e7) (And.intro (@boundQ_eq) (And.intro (@hk) (And.intro (@Nat.zero_le) (And.intro (@Nat.le_refl) (@rowLen_ints))))))))
     repeat' (first | with_reducible refine go ?_ | with_reducible refine t_region fun KT hT => ?_ | (refine kd 10 ?_; (first | with_reducible refine x_nil ?_ | with_reducible refine xt_nil ?_); simp only [realS_mk, realM_mk, pvS, pv, List.nil_append, List.cons_append]; try (refine hT _ _ ?_; clear hT KT)) | (with_reducible refine x_take ?_) | (refine kd 11 ?_; refine x_alloc (by first | exact congrArg TI.zero ti3 | exact congrArg TI.zero ti44) (by simp) (by rfl) (by rfl) (by decide) rfl rfl ?_; try simp only [upd_mk]) | (refine kd 12 ?_; refine x_empty (by first | exact congrArg TI.d ti3 | exact congrArg TI.d ti44) (by decide) (by rfl) (by decide) rfl rfl ?_; try simp only [upd_mk]) | (refine kd 13 ?_; refine x_append (by first | exact congrArg TI.d ti3 | exact congrArg TI.d ti44) (by decide) (by rfl) (by rfl) rfl (by simp) (by simp only [evV, ev, vw, view, viewL, cD, rowsOf, bA, bB, Nat.reduceEqDiff, reduceIte, bT, gx, fx]; rfl) (by first | exact rowLen_nil _ | exact rowLen_map (fun _ => rfl) | exact flat_map (fun _ => rfl) _ | exact flat_app (flat_map (fun _ => rfl) _) (flat_map (fun _ => rfl) _) | (simp only [rowLen_append, rowLen_cons, rowLen_nil]; done) | (simp [RowLen, FlatRows, scal]; done) | (intro r hr; simp at hr; rcases hr with hr | hr <;> first | (obtain ⟨a, _, rfl⟩ := hr; simp [scal]; done) | (subst hr; simp [scal]; done)) | assumption) (by first | exact rowLen_nil _ | exact rowLen_map (fun _ => rfl) | exact flat_map (fun _ => rfl) _ | exact flat_app (flat_map (fun _ => rfl) _) (flat_map (fun _ => rfl) _) | (simp only [rowLen_append, rowLen_cons, rowLen_nil]; done) | (simp [RowLen, FlatRows, scal]; done) | (intro r hr; simp at hr; rcases hr with hr | hr <;> first | (obtain ⟨a, _, rfl⟩ := hr; simp [scal]; done) | (subst hr; simp [scal]; done)) | assumption) (by simp; omega) (by simp; omega) (by first | exact rowLen_nil _ | exact rowLen_map (fun _ => rfl) | exact flat_map (fun _ => rfl) _ | exact flat_app (flat_map (fun _ => rfl) _) (flat_map (fun _ => rfl) _) | (simp only [rowLen_append, rowLen_cons, rowLen_nil]; done) | (simp [RowLen, FlatRows, scal]; done) | (intro r hr; simp at hr; rcases hr with hr | hr <;> first | (obtain ⟨a, _, rfl⟩ := hr; simp [scal]; done) | (subst hr; simp [scal]; done)) | assumption) (by decide) (by decide) rfl rfl ?_; try simp only [upd_mk, del_cons, del_nil, Nat.reduceEqDiff, reduceIte, bB]) | (refine gp fun KK hK => ?_; first | (refine ⟨by first | exact eq_hop, ?_⟩; (first | refine hK _ _ ?_ | refine hK _ (nz ?_)); clear hK KK) | ((repeat refine And.intro (by first | omega | (rw [getD_map_lt (by omega)]; rfl) | (simp; first | done | omega)) ?_); first | (refine hK _ _ ?_; clear hK KK) | (refine hK _ ?_; clear hK KK; try simp only [upd_mk]))) | ((with_reducible first | refine o_nil (hT _ _ ?_) | refine h_nil (hT _ ?_)); clear hT KT) | (with_reducible first | refine ht_nil ?_ | refine dq_succ ?_ | refine dq_f ?_ | refine dq_t ?_) | ((first | refine gd fun AA BB hA hB => ?_ | refine tc fun AA BB hA hB => ?_); first | (refine go ?_; (first | refine hA ?_ | refine hB ?_); clear hA hB AA BB) | (refine go2 ?_ ?_ <;> intro hb <;> (first | refine hA ?_ | refine hB ?_) <;> clear hA hB AA BB <;> (try simp only [hb, decide_true, decide_false]) <;> (try (exfalso; first | (simp at hb; done) | (simp at hb; omega))))) | (with_reducible refine skS ?_; simp only [upd_mk]) | (refine t_drawXT (id := 6) 11 (by kernel_rfl) (by decide) (by kernel_rfl) fun KT hT => ?_) | with_reducible refine tdr fun KT hT => ?_ | with_reducible refine bY ?_)
     all_goals clear fx)
    (refine fo [40] ?_; try exact trivial)
    refine ⟨rfl, rfl, ?_⟩
    rw [hr, List.drop_of_length_le h, putI]
    simp [List.drop_of_length_le h]

set_option maxHeartbeats 8000000 in
theorem intf_o (t : Tp) (r : Int) (h2 : t.links.length ≤ 1048576) : ACall Tryz.prog 99 [.agg (tpRow t), .int .i64 r] (.fs 0) [(intf t r t.links.length).map intRow] := by
  refine acall_mk Tryz.func99 rfl Tryz.ntmps99 Tryz.results99 (by kernel_rfl) (by simp) ?_
  simp only [args, Nat.zero_add, Nat.reduceAdd]
  repeat' (first | with_reducible refine go ?_ | with_reducible refine t_region fun KT hT => ?_ | (refine gp fun KK hK => ?_; first | (refine ⟨by first | exact eq_hop, ?_⟩; (first | refine hK _ _ ?_ | refine hK _ (nz ?_)); clear hK KK) | ((repeat refine And.intro (by first | omega | (rw [getD_map_lt (by omega)]; rfl) | (simp; first | done | omega)) ?_); first | (refine hK _ _ ?_; clear hK KK) | (refine hK _ ?_; clear hK KK; try simp only [upd_mk]))) | ((with_reducible first | refine o_nil (hT _ _ ?_) | refine h_nil (hT _ ?_)); clear hT KT) | ((first | refine gd fun AA BB hA hB => ?_ | refine tc fun AA BB hA hB => ?_); first | (refine go ?_; (first | refine hA ?_ | refine hB ?_); clear hA hB AA BB) | (refine go2 ?_ ?_ <;> intro hb <;> (first | refine hA ?_ | refine hB ?_) <;> clear hA hB AA BB <;> (try simp only [hb, decide_true, decide_false]) <;> (try (exfalso; first | (simp at hb; done) | (simp at hb; omega))))) | (with_reducible refine skS ?_; simp only [upd_mk]) | with_reducible refine tdr fun KT hT => ?_ | with_reducible refine bY ?_)
  refine t_loop (fun k : Nat => [(1, .int .i64 r), (2, .ptr 2 0 0), (5, .fs 99), (6, .int .i64 k)]) (fun k => [(99, .row ((intf t r k).map intRow)), (2, .box (tpRow t))]) (fun k => k ≤ t.links.length) (fun k => t.links.length - k) 0 (imp_move 5 7 99 rfl rfl rfl (imp_keep (by simp [Keep, mk, scrP, scr, intf]) (by simp [KeepT, mkT, del, scrT, Ent.scr, scrL, scr, intf]) rfl)) (Nat.zero_le _) ?_
  intro k hk
  have hlen := intf_len t r k hk
  rcases Nat.lt_or_ge k t.links.length with h | h
  · have e1 : decide ((k : Int) < (t.links.length : Int)) = true := decide_eq_true (by omega)
    have e2 := getD_map_lt (f := lkRow) h
    have st := intf_step t r h
    rw [intfL] at st
    have wk := wrapS (show k < 4611686018427387904 by omega)
    generalize hI : intf t r k = I at *
    have hp1 := putI_len I t.links[k].ai
    generalize t.links[k] = lk at *
    simp only [lkRow] at e2
    rcases Decidable.em (lk.a = r) with q1 | q1 <;> rcases Decidable.em (lk.b = r) with q2 | q2
    all_goals simp only [q1, q2, if_true, if_false] at st
    · have d1 : (lk.a == r) = true := by simpa using q1
      have d2 : (lk.b == r) = true := by simpa using q2
      rcases Bool.eq_false_or_eq_true (fnd I lk.ai) with f1 | f1
      · have c1 := putF_s I lk.ai (by omega) f1
        rw [putI_fnd _ _ f1] at st
        rcases Bool.eq_false_or_eq_true (fnd I lk.bi) with f2 | f2
        · have c2 := putF_s I lk.bi (by omega) f2
          rw [putI_fnd _ _ f2] at st
          (have fx := And.intro (@e1) (And.intro (@e2) (And.intro (@h) (And.intro (@d1) (@d2))))
           repeat' (first | with_reducible refine go ?_ | with_reducible refine t_region fun KT hT => ?_ | (refine gp fun KK hK => ?_; first | ((first | (refine .inr (.inr (eQ [_] (c1) (fun x hx => hK _ _ ?_))); refine nze ?_) | (refine .inr (.inr (eQ [_] (c2) (fun x hx => hK _ _ ?_))); refine nze ?_)); clear hK KK) | (refine ⟨by first | exact eq_hop, ?_⟩; (first | refine hK _ _ ?_ | refine hK _ (nz ?_)); clear hK KK) | ((repeat refine And.intro (by first | omega | (rw [getD_map_lt (by omega)]; rfl) | (simp; first | done | omega)) ?_); first | (refine hK _ _ ?_; clear hK KK) | (refine hK _ ?_; clear hK KK; try simp only [upd_mk]))) | ((with_reducible first | refine o_nil (hT _ _ ?_) | refine h_nil (hT _ ?_)); clear hT KT) | ((first | refine gd fun AA BB hA hB => ?_ | refine tc fun AA BB hA hB => ?_); first | (refine go ?_; (first | refine hA ?_ | refine hB ?_); clear hA hB AA BB) | (refine go2 ?_ ?_ <;> intro hb <;> (first | refine hA ?_ | refine hB ?_) <;> clear hA hB AA BB <;> (try simp only [hb, decide_true, decide_false]) <;> (try (exfalso; first | (simp at hb; done) | (simp at hb; omega))))) | (with_reducible refine skS ?_; simp only [upd_mk]) | with_reducible refine tdr fun KT hT => ?_ | with_reducible refine bY ?_)
           all_goals clear fx)
          refine k_rnd (k + 1) (imp_keep ?_ ?_ rfl) h (by omega)
          · simp [Keep, mk, wk]
          · simp [KeepT, mkT, st]
        · have c2 := putN_s I lk.bi (by omega) f2
          (have fx := And.intro (@e1) (And.intro (@e2) (And.intro (@h) (And.intro (@d1) (@d2))))
           repeat' (first | with_reducible refine go ?_ | with_reducible refine t_region fun KT hT => ?_ | (refine gp fun KK hK => ?_; first | ((with_reducible first | refine .inl ⟨_, _, ⟨c2, rfl, csq⟩, hK _ _ (nz ?_)⟩ | refine ⟨_, ⟨c2, rfl, rfl, csq⟩, hK _ (nz ?_)⟩); clear hK KK) | ((first | (refine .inr (.inr (eQ [_] (c1) (fun x hx => hK _ _ ?_))); refine nze ?_)); clear hK KK) | (refine ⟨by first | exact eq_hop, ?_⟩; (first | refine hK _ _ ?_ | refine hK _ (nz ?_)); clear hK KK) | ((repeat refine And.intro (by first | omega | (rw [getD_map_lt (by omega)]; rfl) | (simp; first | done | omega)) ?_); first | (refine hK _ _ ?_; clear hK KK) | (refine hK _ ?_; clear hK KK; try simp only [upd_mk]))) | ((with_reducible first | refine o_nil (hT _ _ ?_) | refine h_nil (hT _ ?_)); clear hT KT) | ((first | refine gd fun AA BB hA hB => ?_ | refine tc fun AA BB hA hB => ?_); first | (refine go ?_; (first | refine hA ?_ | refine hB ?_); clear hA hB AA BB) | (refine go2 ?_ ?_ <;> intro hb <;> (first | refine hA ?_ | refine hB ?_) <;> clear hA hB AA BB <;> (try simp only [hb, decide_true, decide_false]) <;> (try (exfalso; first | (simp at hb; done) | (simp at hb; omega))))) | (with_reducible refine skS ?_; simp only [upd_mk]) | with_reducible refine tdr fun KT hT => ?_ | with_reducible refine bY ?_)
           all_goals clear fx)
          refine k_rnd (k + 1) (imp_drop 99 (imp_move 5 1046 99 rfl rfl rfl (imp_keep ?_ ?_ rfl))) h (by omega)
          · simp [Keep, mk, scrP, scr, wk]
          · simp [KeepT, mkT, del, scrT, Ent.scr, scrL, scr, st]
      · have c1 := putN_s I lk.ai (by omega) f1
        rcases Bool.eq_false_or_eq_true (fnd (putI I lk.ai) lk.bi) with f2 | f2
        · have c2 := putF_s (putI I lk.ai) lk.bi (by omega) f2
          rw [putI_fnd _ _ f2] at st
          (have fx := And.intro (@e1) (And.intro (@e2) (And.intro (@h) (And.intro (@d1) (@d2))))
           repeat' (first | with_reducible refine go ?_ | with_reducible refine t_region fun KT hT => ?_ | (refine gp fun KK hK => ?_; first | ((with_reducible first | refine .inl ⟨_, _, ⟨c1, rfl, csq⟩, hK _ _ (nz ?_)⟩ | refine ⟨_, ⟨c1, rfl, rfl, csq⟩, hK _ (nz ?_)⟩); clear hK KK) | ((first | (refine .inr (.inr (eQ [_] (c2) (fun x hx => hK _ _ ?_))); refine nze ?_)); clear hK KK) | (refine ⟨by first | exact eq_hop, ?_⟩; (first | refine hK _ _ ?_ | refine hK _ (nz ?_)); clear hK KK) | ((repeat refine And.intro (by first | omega | (rw [getD_map_lt (by omega)]; rfl) | (simp; first | done | omega)) ?_); first | (refine hK _ _ ?_; clear hK KK) | (refine hK _ ?_; clear hK KK; try simp only [upd_mk]))) | ((with_reducible first | refine o_nil (hT _ _ ?_) | refine h_nil (hT _ ?_)); clear hT KT) | ((first | refine gd fun AA BB hA hB => ?_ | refine tc fun AA BB hA hB => ?_); first | (refine go ?_; (first | refine hA ?_ | refine hB ?_); clear hA hB AA BB) | (refine go2 ?_ ?_ <;> intro hb <;> (first | refine hA ?_ | refine hB ?_) <;> clear hA hB AA BB <;> (try simp only [hb, decide_true, decide_false]) <;> (try (exfalso; first | (simp at hb; done) | (simp at hb; omega))))) | (with_reducible refine skS ?_; simp only [upd_mk]) | with_reducible refine tdr fun KT hT => ?_ | with_reducible refine bY ?_)
           all_goals clear fx)
          refine k_rnd (k + 1) (imp_drop 99 (imp_move 5 1030 99 rfl rfl rfl (imp_keep ?_ ?_ rfl))) h (by omega)
          · simp [Keep, mk, scrP, scr, wk]
          · simp [KeepT, mkT, del, scrT, Ent.scr, scrL, scr, st]
        · have c2 := putN_s (putI I lk.ai) lk.bi (by omega) f2
          (have fx := And.intro (@e1) (And.intro (@e2) (And.intro (@h) (And.intro (@d1) (@d2))))
           repeat' (first | with_reducible refine go ?_ | with_reducible refine t_region fun KT hT => ?_ | (refine gp fun KK hK => ?_; first | ((with_reducible first | refine .inl ⟨_, _, ⟨c1, rfl, csq⟩, hK _ _ (nz ?_)⟩ | refine .inl ⟨_, _, ⟨c2, rfl, csq⟩, hK _ _ (nz ?_)⟩ | refine ⟨_, ⟨c1, rfl, rfl, csq⟩, hK _ (nz ?_)⟩ | refine ⟨_, ⟨c2, rfl, rfl, csq⟩, hK _ (nz ?_)⟩); clear hK KK) | (refine ⟨by first | exact eq_hop, ?_⟩; (first | refine hK _ _ ?_ | refine hK _ (nz ?_)); clear hK KK) | ((repeat refine And.intro (by first | omega | (rw [getD_map_lt (by omega)]; rfl) | (simp; first | done | omega)) ?_); first | (refine hK _ _ ?_; clear hK KK) | (refine hK _ ?_; clear hK KK; try simp only [upd_mk]))) | ((with_reducible first | refine o_nil (hT _ _ ?_) | refine h_nil (hT _ ?_)); clear hT KT) | ((first | refine gd fun AA BB hA hB => ?_ | refine tc fun AA BB hA hB => ?_); first | (refine go ?_; (first | refine hA ?_ | refine hB ?_); clear hA hB AA BB) | (refine go2 ?_ ?_ <;> intro hb <;> (first | refine hA ?_ | refine hB ?_) <;> clear hA hB AA BB <;> (try simp only [hb, decide_true, decide_false]) <;> (try (exfalso; first | (simp at hb; done) | (simp at hb; omega))))) | (with_reducible refine skS ?_; simp only [upd_mk]) | with_reducible refine tdr fun KT hT => ?_ | with_reducible refine bY ?_)
           all_goals clear fx)
          refine k_rnd (k + 1) (imp_drop 99 (imp_drop 1030 (imp_move 5 1046 99 rfl rfl rfl (imp_keep ?_ ?_ rfl)))) h (by omega)
          · simp [Keep, mk, scrP, scr, wk]
          · simp [KeepT, mkT, del, scrT, Ent.scr, scrL, scr, st]
    · have d1 : (lk.a == r) = true := by simpa using q1
      have d2 : (lk.b == r) = false := by simpa using q2
      rcases Bool.eq_false_or_eq_true (fnd I lk.ai) with f1 | f1
      · have c1 := putF_s I lk.ai (by omega) f1
        rw [putI_fnd _ _ f1] at st
        (have fx := And.intro (@e1) (And.intro (@e2) (And.intro (@h) (And.intro (@d1) (@d2))))
         repeat' (first | with_reducible refine go ?_ | with_reducible refine t_region fun KT hT => ?_ | (refine gp fun KK hK => ?_; first | ((first | (refine .inr (.inr (eQ [_] (c1) (fun x hx => hK _ _ ?_))); refine nze ?_)); clear hK KK) | (refine ⟨by first | exact eq_hop, ?_⟩; (first | refine hK _ _ ?_ | refine hK _ (nz ?_)); clear hK KK) | ((repeat refine And.intro (by first | omega | (rw [getD_map_lt (by omega)]; rfl) | (simp; first | done | omega)) ?_); first | (refine hK _ _ ?_; clear hK KK) | (refine hK _ ?_; clear hK KK; try simp only [upd_mk]))) | ((with_reducible first | refine o_nil (hT _ _ ?_) | refine h_nil (hT _ ?_)); clear hT KT) | ((first | refine gd fun AA BB hA hB => ?_ | refine tc fun AA BB hA hB => ?_); first | (refine go ?_; (first | refine hA ?_ | refine hB ?_); clear hA hB AA BB) | (refine go2 ?_ ?_ <;> intro hb <;> (first | refine hA ?_ | refine hB ?_) <;> clear hA hB AA BB <;> (try simp only [hb, decide_true, decide_false]) <;> (try (exfalso; first | (simp at hb; done) | (simp at hb; omega))))) | (with_reducible refine skS ?_; simp only [upd_mk]) | with_reducible refine tdr fun KT hT => ?_ | with_reducible refine bY ?_)
         all_goals clear fx)
        refine k_rnd (k + 1) (imp_keep ?_ ?_ rfl) h (by omega)
        · simp [Keep, mk, wk]
        · simp [KeepT, mkT, st]
      · have c1 := putN_s I lk.ai (by omega) f1
        (have fx := And.intro (@e1) (And.intro (@e2) (And.intro (@h) (And.intro (@d1) (@d2))))
         repeat' (first | with_reducible refine go ?_ | with_reducible refine t_region fun KT hT => ?_ | (refine gp fun KK hK => ?_; first | ((with_reducible first | refine .inl ⟨_, _, ⟨c1, rfl, csq⟩, hK _ _ (nz ?_)⟩ | refine ⟨_, ⟨c1, rfl, rfl, csq⟩, hK _ (nz ?_)⟩); clear hK KK) | (refine ⟨by first | exact eq_hop, ?_⟩; (first | refine hK _ _ ?_ | refine hK _ (nz ?_)); clear hK KK) | ((repeat refine And.intro (by first | omega | (rw [getD_map_lt (by omega)]; rfl) | (simp; first | done | omega)) ?_); first | (refine hK _ _ ?_; clear hK KK) | (refine hK _ ?_; clear hK KK; try simp only [upd_mk]))) | ((with_reducible first | refine o_nil (hT _ _ ?_) | refine h_nil (hT _ ?_)); clear hT KT) | ((first | refine gd fun AA BB hA hB => ?_ | refine tc fun AA BB hA hB => ?_); first | (refine go ?_; (first | refine hA ?_ | refine hB ?_); clear hA hB AA BB) | (refine go2 ?_ ?_ <;> intro hb <;> (first | refine hA ?_ | refine hB ?_) <;> clear hA hB AA BB <;> (try simp only [hb, decide_true, decide_false]) <;> (try (exfalso; first | (simp at hb; done) | (simp at hb; omega))))) | (with_reducible refine skS ?_; simp only [upd_mk]) | with_reducible refine tdr fun KT hT => ?_ | with_reducible refine bY ?_)
         all_goals clear fx)
        refine k_rnd (k + 1) (imp_drop 99 (imp_move 5 1030 99 rfl rfl rfl (imp_keep ?_ ?_ rfl))) h (by omega)
        · simp [Keep, mk, scrP, scr, wk]
        · simp [KeepT, mkT, del, scrT, Ent.scr, scrL, scr, st]
    · have d1 : (lk.a == r) = false := by simpa using q1
      have d2 : (lk.b == r) = true := by simpa using q2
      rcases Bool.eq_false_or_eq_true (fnd I lk.bi) with f1 | f1
      · have c1 := putF_s I lk.bi (by omega) f1
        rw [putI_fnd _ _ f1] at st
        (have fx := And.intro (@e1) (And.intro (@e2) (And.intro (@h) (And.intro (@d1) (@d2))))
         repeat' (first | with_reducible refine go ?_ | with_reducible refine t_region fun KT hT => ?_ | (refine gp fun KK hK => ?_; first | ((first | (refine .inr (.inr (eQ [_] (c1) (fun x hx => hK _ _ ?_))); refine nze ?_)); clear hK KK) | (refine ⟨by first | exact eq_hop, ?_⟩; (first | refine hK _ _ ?_ | refine hK _ (nz ?_)); clear hK KK) | ((repeat refine And.intro (by first | omega | (rw [getD_map_lt (by omega)]; rfl) | (simp; first | done | omega)) ?_); first | (refine hK _ _ ?_; clear hK KK) | (refine hK _ ?_; clear hK KK; try simp only [upd_mk]))) | ((with_reducible first | refine o_nil (hT _ _ ?_) | refine h_nil (hT _ ?_)); clear hT KT) | ((first | refine gd fun AA BB hA hB => ?_ | refine tc fun AA BB hA hB => ?_); first | (refine go ?_; (first | refine hA ?_ | refine hB ?_); clear hA hB AA BB) | (refine go2 ?_ ?_ <;> intro hb <;> (first | refine hA ?_ | refine hB ?_) <;> clear hA hB AA BB <;> (try simp only [hb, decide_true, decide_false]) <;> (try (exfalso; first | (simp at hb; done) | (simp at hb; omega))))) | (with_reducible refine skS ?_; simp only [upd_mk]) | with_reducible refine tdr fun KT hT => ?_ | with_reducible refine bY ?_)
         all_goals clear fx)
        refine k_rnd (k + 1) (imp_keep ?_ ?_ rfl) h (by omega)
        · simp [Keep, mk, wk]
        · simp [KeepT, mkT, st]
      · have c1 := putN_s I lk.bi (by omega) f1
        (have fx := And.intro (@e1) (And.intro (@e2) (And.intro (@h) (And.intro (@d1) (@d2))))
         repeat' (first | with_reducible refine go ?_ | with_reducible refine t_region fun KT hT => ?_ | (refine gp fun KK hK => ?_; first | ((with_reducible first | refine .inl ⟨_, _, ⟨c1, rfl, csq⟩, hK _ _ (nz ?_)⟩ | refine ⟨_, ⟨c1, rfl, rfl, csq⟩, hK _ (nz ?_)⟩); clear hK KK) | (refine ⟨by first | exact eq_hop, ?_⟩; (first | refine hK _ _ ?_ | refine hK _ (nz ?_)); clear hK KK) | ((repeat refine And.intro (by first | omega | (rw [getD_map_lt (by omega)]; rfl) | (simp; first | done | omega)) ?_); first | (refine hK _ _ ?_; clear hK KK) | (refine hK _ ?_; clear hK KK; try simp only [upd_mk]))) | ((with_reducible first | refine o_nil (hT _ _ ?_) | refine h_nil (hT _ ?_)); clear hT KT) | ((first | refine gd fun AA BB hA hB => ?_ | refine tc fun AA BB hA hB => ?_); first | (refine go ?_; (first | refine hA ?_ | refine hB ?_); clear hA hB AA BB) | (refine go2 ?_ ?_ <;> intro hb <;> (first | refine hA ?_ | refine hB ?_) <;> clear hA hB AA BB <;> (try simp only [hb, decide_true, decide_false]) <;> (try (exfalso; first | (simp at hb; done) | (simp at hb; omega))))) | (with_reducible refine skS ?_; simp only [upd_mk]) | with_reducible refine tdr fun KT hT => ?_ | with_reducible refine bY ?_)
         all_goals clear fx)
        refine k_rnd (k + 1) (imp_drop 99 (imp_move 5 1046 99 rfl rfl rfl (imp_keep ?_ ?_ rfl))) h (by omega)
        · simp [Keep, mk, scrP, scr, wk]
        · simp [KeepT, mkT, del, scrT, Ent.scr, scrL, scr, st]
    · have d1 : (lk.a == r) = false := by simpa using q1
      have d2 : (lk.b == r) = false := by simpa using q2
      (have fx := And.intro (@e1) (And.intro (@e2) (And.intro (@h) (And.intro (@d1) (@d2))))
       repeat' (first | with_reducible refine go ?_ | with_reducible refine t_region fun KT hT => ?_ | (refine gp fun KK hK => ?_; first | (refine ⟨by first | exact eq_hop, ?_⟩; (first | refine hK _ _ ?_ | refine hK _ (nz ?_)); clear hK KK) | ((repeat refine And.intro (by first | omega | (rw [getD_map_lt (by omega)]; rfl) | (simp; first | done | omega)) ?_); first | (refine hK _ _ ?_; clear hK KK) | (refine hK _ ?_; clear hK KK; try simp only [upd_mk]))) | ((with_reducible first | refine o_nil (hT _ _ ?_) | refine h_nil (hT _ ?_)); clear hT KT) | ((first | refine gd fun AA BB hA hB => ?_ | refine tc fun AA BB hA hB => ?_); first | (refine go ?_; (first | refine hA ?_ | refine hB ?_); clear hA hB AA BB) | (refine go2 ?_ ?_ <;> intro hb <;> (first | refine hA ?_ | refine hB ?_) <;> clear hA hB AA BB <;> (try simp only [hb, decide_true, decide_false]) <;> (try (exfalso; first | (simp at hb; done) | (simp at hb; omega))))) | (with_reducible refine skS ?_; simp only [upd_mk]) | with_reducible refine tdr fun KT hT => ?_ | with_reducible refine bY ?_)
       all_goals clear fx)
      refine k_rnd (k + 1) (imp_keep ?_ ?_ rfl) h (by omega)
      · simp [Keep, mk, wk]
      · simp [KeepT, mkT, st]
  · obtain rfl : k = t.links.length := by omega
    have e1 : decide ((t.links.length : Int) < (t.links.length : Int)) = false := by simp
    (have fx := (@e1)
     repeat' (first | with_reducible refine go ?_ | with_reducible refine t_region fun KT hT => ?_ | (refine gp fun KK hK => ?_; first | (refine ⟨by first | exact eq_hop, ?_⟩; (first | refine hK _ _ ?_ | refine hK _ (nz ?_)); clear hK KK) | ((repeat refine And.intro (by first | omega | (rw [getD_map_lt (by omega)]; rfl) | (simp; first | done | omega)) ?_); first | (refine hK _ _ ?_; clear hK KK) | (refine hK _ ?_; clear hK KK; try simp only [upd_mk]))) | ((with_reducible first | refine o_nil (hT _ _ ?_) | refine h_nil (hT _ ?_)); clear hT KT) | ((first | refine gd fun AA BB hA hB => ?_ | refine tc fun AA BB hA hB => ?_); first | (refine go ?_; (first | refine hA ?_ | refine hB ?_); clear hA hB AA BB) | (refine go2 ?_ ?_ <;> intro hb <;> (first | refine hA ?_ | refine hB ?_) <;> clear hA hB AA BB <;> (try simp only [hb, decide_true, decide_false]) <;> (try (exfalso; first | (simp at hb; done) | (simp at hb; omega))))) | (with_reducible refine skS ?_; simp only [upd_mk]) | with_reducible refine tdr fun KT hT => ?_ | with_reducible refine bY ?_)
     all_goals clear fx)
    (refine fo [99] ?_; try exact trivial)
    exact ⟨rfl, rfl, by simp⟩

end Go.Proofs.YtmiclkgkfkcnoaaGreat
