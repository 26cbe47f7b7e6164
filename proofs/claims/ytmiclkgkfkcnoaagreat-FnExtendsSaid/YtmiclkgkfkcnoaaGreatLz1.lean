/- The functions of this program, walked by the evaluator: part z, 1. -/
import Derived.Test.YtmiclkgkfkcnoaaGreatLh1
import Derived.Test.YtmiclkgkfkcnoaaGreatLD
namespace Go.Proofs.YtmiclkgkfkcnoaaGreat
open Go.RowKit
set_option linter.unusedSimpArgs false
set_option linter.unusedVariables false
set_option maxRecDepth 100000
set_option linter.defProp false
namespace GLz1
def gx := And.intro (@hopRow.eq_1) (And.intro (@polRow.eq_1) (And.intro (@segRow.eq_1) (And.intro (@intRow.eq_1) (And.intro (@rowLen_ints) (And.intro (@rowLen_nil) (And.intro (@rowLen_cons) (And.intro (@rowLen_append) (And.intro (@lenL_app) (And.intro (@byteRow.eq_1) (And.intro (@rowLen_bytes) (And.intro (@bytesOf_map) (And.intro (@bytesOf_cons) (And.intro (@bytesOf_one) (And.intro (@rowLen_strs) (And.intro (@asRow.eq_1) (And.intro (@lkRow.eq_1) (And.intro (@tpRow.eq_1) (And.intro (@rowLen_hops) (And.intro (@rowLen_ases) (And.intro (@rowLen_links) (And.intro (@bcRow.eq_1) (And.intro (@rowLen_bcs) (@u8Row.eq_1)))))))))))))))))))))))
end GLz1
open GLz1
set_option maxHeartbeats 4000000 in
theorem lkOk_s (t : Tp) (l : Lk) (h1 : t.ases.length ≤ 1048576) : ACall Tryz.prog 93 [.agg (tpRow t), .agg (lkRow l)] (.bool (lkOk t l)) [] := by
  rcases Bool.eq_false_or_eq_true (realm t l.a) with q1 | q1
  · rcases Bool.eq_false_or_eq_true (realm t l.b) with q2 | q2
    · have hl1 := realm_lt q1
      have hl2 := realm_lt q2
      have e1 := getD_map_lt (f := asRow) hl1.2
      have e2 := getD_map_lt (f := asRow) hl2.2
      have ca : coreF t l.a = (t.ases[l.a.toNat]'hl1.2).core := by rw [coreF, dif_pos q1]
      have cb : coreF t l.b = (t.ases[l.b.toNat]'hl2.2).core := by rw [coreF, dif_pos q2]
      have ia : isdF t l.a = (t.ases[l.a.toNat]'hl1.2).isd := by rw [isdF, dif_pos q1]
      have ib : isdF t l.b = (t.ases[l.b.toNat]'hl2.2).isd := by rw [isdF, dif_pos q2]
      have hk : lkOk t l = (decide (l.a < l.b) && inR l.ai 1 6 && inR l.bi 1 6 && (if l.kind == 1 then (t.ases[l.a.toNat]'hl1.2).core && (t.ases[l.b.toNat]'hl2.2).core else if l.kind == 2 then ((t.ases[l.a.toNat]'hl1.2).isd == (t.ases[l.b.toNat]'hl2.2).isd) && !(t.ases[l.b.toNat]'hl2.2).core else (l.kind == 3) && !(t.ases[l.a.toNat]'hl1.2).core && !(t.ases[l.b.toNat]'hl2.2).core)) := by
        rw [lkOk, q1, q2, ca, cb, ia, ib]; rfl
      rw [hk]
      simp only [asRow] at e1 e2
      generalize (t.ases[l.a.toNat]'hl1.2).core = c1 at *
      generalize (t.ases[l.b.toNat]'hl2.2).core = c2 at *
      generalize (t.ases[l.a.toNat]'hl1.2).isd = s1 at *
      generalize (t.ases[l.b.toNat]'hl2.2).isd = s2 at *
      have hge : ∀ a b : Int, decide (b ≤ a) = !decide (a < b) := by intro a b; by_cases h : a < b <;> simp [h] <;> omega
      have hg := hge l.a l.b
      refine acall_mk Tryz.func93 rfl Tryz.ntmps93 Tryz.results93 (by kernel_rfl) (by simp) ?_
      simp only [args, Nat.zero_add, Nat.reduceAdd]
      (have fx := And.intro (@q1) (And.intro (@q2) (And.intro (@e1) (And.intro (@e2) (And.intro (@hl1) (And.intro (@hl2) (@hg))))))
       repeat' (first | with_reducible refine go ?_ | with_reducible refine t_region fun KT hT => ?_ | (refine gp fun KK hK => ?_; first | ((with_reducible first | refine .inl ⟨_, _, ⟨realm_s t _ h1, rfl, csq⟩, hK _ _ (nz ?_)⟩ | refine .inl ⟨_, _, ⟨l1In_s _ _ _, rfl, csq⟩, hK _ _ (nz ?_)⟩ | refine ⟨_, ⟨realm_s t _ h1, rfl, rfl, csq⟩, hK _ (nz ?_)⟩ | refine ⟨_, ⟨l1In_s _ _ _, rfl, rfl, csq⟩, hK _ (nz ?_)⟩); clear hK KK) | (refine ⟨by first | exact eq_hop, ?_⟩; (first | refine hK _ _ ?_ | refine hK _ (nz ?_)); clear hK KK) | ((repeat refine And.intro (by first | omega | (rw [getD_map_lt (by omega)]; rfl) | (simp; first | done | omega)) ?_); first | (refine hK _ _ ?_; clear hK KK) | (refine hK _ ?_; clear hK KK; try simp only [upd_mk]))) | ((with_reducible first | refine o_nil (hT _ _ ?_) | refine h_nil (hT _ ?_)); clear hT KT) | ((first | refine gd fun AA BB hA hB => ?_ | refine tc fun AA BB hA hB => ?_); first | (refine go ?_; (first | refine hA ?_ | refine hB ?_); clear hA hB AA BB) | (refine go2 ?_ ?_ <;> intro hb <;> (first | refine hA ?_ | refine hB ?_) <;> clear hA hB AA BB <;> (try simp only [hb, decide_true, decide_false]) <;> (try (exfalso; first | (simp at hb; done) | (simp at hb; omega))))) | (with_reducible refine skS ?_; simp only [upd_mk]) | with_reducible refine tdr fun KT hT => ?_ | with_reducible refine bY ?_)
       all_goals clear fx)
      all_goals (refine fe ?_; try exact trivial)
      all_goals clear hk ca cb ia ib e1 e2 hg hge
      all_goals simp_all
      all_goals (intros; omega)
    · have hk : lkOk t l = false := by rw [lkOk, q1, q2]; rfl
      rw [hk]
      refine acall_mk Tryz.func93 rfl Tryz.ntmps93 Tryz.results93 (by kernel_rfl) (by simp) ?_
      simp only [args, Nat.zero_add, Nat.reduceAdd]
      (have fx := And.intro (@q1) (@q2)
       repeat' (first | with_reducible refine go ?_ | with_reducible refine t_region fun KT hT => ?_ | (refine gp fun KK hK => ?_; first | ((with_reducible first | refine .inl ⟨_, _, ⟨realm_s t _ h1, rfl, csq⟩, hK _ _ (nz ?_)⟩ | refine ⟨_, ⟨realm_s t _ h1, rfl, rfl, csq⟩, hK _ (nz ?_)⟩); clear hK KK) | (refine ⟨by first | exact eq_hop, ?_⟩; (first | refine hK _ _ ?_ | refine hK _ (nz ?_)); clear hK KK) | ((repeat refine And.intro (by first | omega | (rw [getD_map_lt (by omega)]; rfl) | (simp; first | done | omega)) ?_); first | (refine hK _ _ ?_; clear hK KK) | (refine hK _ ?_; clear hK KK; try simp only [upd_mk]))) | ((with_reducible first | refine o_nil (hT _ _ ?_) | refine h_nil (hT _ ?_)); clear hT KT) | ((first | refine gd fun AA BB hA hB => ?_ | refine tc fun AA BB hA hB => ?_); first | (refine go ?_; (first | refine hA ?_ | refine hB ?_); clear hA hB AA BB) | (refine go2 ?_ ?_ <;> intro hb <;> (first | refine hA ?_ | refine hB ?_) <;> clear hA hB AA BB <;> (try simp only [hb, decide_true, decide_false]) <;> (try (exfalso; first | (simp at hb; done) | (simp at hb; omega))))) | (with_reducible refine skS ?_; simp only [upd_mk]) | with_reducible refine tdr fun KT hT => ?_ | with_reducible refine bY ?_)
       all_goals clear fx)
      all_goals (refine fe ?_; try exact trivial)
  · have hk : lkOk t l = false := by rw [lkOk, q1]; rfl
    rw [hk]
    refine acall_mk Tryz.func93 rfl Tryz.ntmps93 Tryz.results93 (by kernel_rfl) (by simp) ?_
    simp only [args, Nat.zero_add, Nat.reduceAdd]
    (have fx := (@q1)
     repeat' (first | with_reducible refine go ?_ | with_reducible refine t_region fun KT hT => ?_ | (refine gp fun KK hK => ?_; first | ((with_reducible first | refine .inl ⟨_, _, ⟨realm_s t _ h1, rfl, csq⟩, hK _ _ (nz ?_)⟩ | refine ⟨_, ⟨realm_s t _ h1, rfl, rfl, csq⟩, hK _ (nz ?_)⟩); clear hK KK) | (refine ⟨by first | exact eq_hop, ?_⟩; (first | refine hK _ _ ?_ | refine hK _ (nz ?_)); clear hK KK) | ((repeat refine And.intro (by first | omega | (rw [getD_map_lt (by omega)]; rfl) | (simp; first | done | omega)) ?_); first | (refine hK _ _ ?_; clear hK KK) | (refine hK _ ?_; clear hK KK; try simp only [upd_mk]))) | ((with_reducible first | refine o_nil (hT _ _ ?_) | refine h_nil (hT _ ?_)); clear hT KT) | ((first | refine gd fun AA BB hA hB => ?_ | refine tc fun AA BB hA hB => ?_); first | (refine go ?_; (first | refine hA ?_ | refine hB ?_); clear hA hB AA BB) | (refine go2 ?_ ?_ <;> intro hb <;> (first | refine hA ?_ | refine hB ?_) <;> clear hA hB AA BB <;> (try simp only [hb, decide_true, decide_false]) <;> (try (exfalso; first | (simp at hb; done) | (simp at hb; omega))))) | (with_reducible refine skS ?_; simp only [upd_mk]) | with_reducible refine tdr fun KT hT => ?_ | with_reducible refine bY ?_)
     all_goals clear fx)
    all_goals (refine fe ?_; try exact trivial)

set_option maxHeartbeats 4000000 in
theorem put_s (l : List Int) (n : Int) (hl : l.length ≤ 4194304) : ACall Tryz.prog 102 [.sl (l.map intRow), .int .i64 n] (.sl ((putI l n).map intRow)) [] := by
  refine acall_mk Tryz.func102 rfl Tryz.ntmps102 Tryz.results102 (by kernel_rfl) (by simp) ?_
  simp only [args, Nat.zero_add, Nat.reduceAdd]
  repeat' (first | with_reducible refine go ?_ | with_reducible refine t_region fun KT hT => ?_ | (refine gp fun KK hK => ?_; first | (refine ⟨by first | exact eq_hop, ?_⟩; (first | refine hK _ _ ?_ | refine hK _ (nz ?_)); clear hK KK) | ((repeat refine And.intro (by first | omega | (rw [getD_map_lt (by omega)]; rfl) | (simp; first | done | omega)) ?_); first | (refine hK _ _ ?_; clear hK KK) | (refine hK _ ?_; clear hK KK; try simp only [upd_mk]))) | ((with_reducible first | refine o_nil (hT _ _ ?_) | refine h_nil (hT _ ?_)); clear hT KT) | ((first | refine gd fun AA BB hA hB => ?_ | refine tc fun AA BB hA hB => ?_); first | (refine go ?_; (first | refine hA ?_ | refine hB ?_); clear hA hB AA BB) | (refine go2 ?_ ?_ <;> intro hb <;> (first | refine hA ?_ | refine hB ?_) <;> clear hA hB AA BB <;> (try simp only [hb, decide_true, decide_false]) <;> (try (exfalso; first | (simp at hb; done) | (simp at hb; omega))))) | (with_reducible refine skS ?_; simp only [upd_mk]) | with_reducible refine tdr fun KT hT => ?_ | with_reducible refine bY ?_)
  refine t_loop (fun k : Nat => [(0, .sl (l.map intRow)), (1, .int .i64 n), (5, .int .i64 k)]) (fun _ => []) (fun k => k ≤ l.length ∧ putI l n = l.take k ++ putI (l.drop k) n) (fun k => l.length - k) 0 (imp_keep (by simp [Keep, mk]) trivial rfl) ⟨Nat.zero_le _, by simp⟩ ?_
  rintro k ⟨hk, hr⟩
  have e5 : List.take k (l.map intRow) = (l.take k).map intRow := List.map_take.symm
  have e6 : List.take l.length (l.map intRow) = l.map intRow := List.take_of_length_le (by simp)
  have e7 : List.drop k (l.map intRow) = (l.drop k).map intRow := List.map_drop.symm
  have hf1 : FlatRows ((l.take k).map intRow ++ [[.int .i64 n]]) := flat_app (flat_map (fun _ => rfl) _) (flat_map (f := intRow) (fun _ => rfl) [n])
  have hf2 : FlatRows (((l.take k).map intRow ++ [[.int .i64 n]]) ++ (l.drop k).map intRow) := flat_app hf1 (flat_map (fun _ => rfl) _)
  rcases Nat.lt_or_ge k l.length with h | h
  · have e1 : decide ((k : Int) < (l.length : Int)) = true := decide_eq_true (by omega)
    have e2 := getD_map_lt (f := intRow) h
    rw [putI_drop h] at hr
    have hd := List.drop_eq_getElem_cons h
    simp only [intRow] at e2
    generalize hx0 : l[k] = x at *
    rcases Int.lt_or_le x n with h3 | h3
    · have e3 : decide (x < n) = true := decide_eq_true h3
      rw [if_pos h3] at hr
      (have fx := And.intro (@e1) (And.intro (@e2) (And.intro (@e3) (@h)))
       repeat' (first | with_reducible refine go ?_ | with_reducible refine t_region fun KT hT => ?_ | (refine gp fun KK hK => ?_; first | (refine ⟨by first | exact eq_hop, ?_⟩; (first | refine hK _ _ ?_ | refine hK _ (nz ?_)); clear hK KK) | ((repeat refine And.intro (by first | omega | (rw [getD_map_lt (by omega)]; rfl) | (simp; first | done | omega)) ?_); first | (refine hK _ _ ?_; clear hK KK) | (refine hK _ ?_; clear hK KK; try simp only [upd_mk]))) | ((with_reducible first | refine o_nil (hT _ _ ?_) | refine h_nil (hT _ ?_)); clear hT KT) | ((first | refine gd fun AA BB hA hB => ?_ | refine tc fun AA BB hA hB => ?_); first | (refine go ?_; (first | refine hA ?_ | refine hB ?_); clear hA hB AA BB) | (refine go2 ?_ ?_ <;> intro hb <;> (first | refine hA ?_ | refine hB ?_) <;> clear hA hB AA BB <;> (try simp only [hb, decide_true, decide_false]) <;> (try (exfalso; first | (simp at hb; done) | (simp at hb; omega))))) | (with_reducible refine skS ?_; simp only [upd_mk]) | with_reducible refine tdr fun KT hT => ?_ | with_reducible refine bY ?_)
       all_goals clear fx)
      refine k_rnd (k + 1) (imp_keep ?_ trivial rfl) ⟨h, ?_⟩ (by omega)
      · simp [Keep, mk, wrapS (show k < 4611686018427387904 by omega)]
      · rw [hr, List.take_succ_eq_append_getElem h]
        simp [hx0]
    · have e3 : decide (x < n) = false := decide_eq_false (by omega)
      rw [if_neg (by omega)] at hr
      rcases Int.lt_or_le n x with h4 | h4
      · have e4 : (x == n) = false := by simp; omega
        (have fx := And.intro (@e1) (And.intro (@e2) (And.intro (@e3) (And.intro (@e4) (And.intro (@h) (And.intro (@e5) (And.intro (@e6) (And.intro (@e7) (And.intro (@boundQ_eq) (And.intro (@hk) (And.intro (@Nat.zero_le) (And.intro (@Nat.le_refl) (@rowLen_ints))))))))))))
         repeat' (first | with_reducible refine go ?_ | with_reducible refine t_region fun KT hT => ?_ | (refine kd 10 ?_; (first | with_reducible refine x_nil ?_ | with_reducible refine xt_nil ?_); simp only [realS_mk, realM_mk, pvS, pv, List.nil_append, List.cons_append]; try (refine hT _ _ ?_; clear hT KT)) | (with_reducible refine x_take ?_) | (refine kd 11 ?_; refine x_alloc (by first | exact congrArg TI.zero ti3 | exact congrArg TI.zero ti44) (by simp) (by rfl) (by rfl) (by decide) rfl rfl ?_; try simp only [upd_mk]) | (refine kd 12 ?_; refine x_empty (by first | exact congrArg TI.d ti3 | exact congrArg TI.d ti44) (by decide) (by rfl) (by decide) rfl rfl ?_; try simp only [upd_mk]) | (refine kd 13 ?_; refine x_append (by first | exact congrArg TI.d ti3 | exact congrArg TI.d ti44) (by decide) (by rfl) (by rfl) rfl (by simp) (by simp only [evV, ev, vw, view, viewL, cD, rowsOf, bA, bB, Nat.reduceEqDiff, reduceIte, bT, gx, fx]; rfl) (by first | exact rowLen_nil _ | exact rowLen_map (fun _ => rfl) | exact flat_map (fun _ => rfl) _ | exact flat_app (flat_map (fun _ => rfl) _) (flat_map (fun _ => rfl) _) | (simp only [rowLen_append, rowLen_cons, rowLen_nil]; done) | (simp [RowLen, FlatRows, scal]; done) | (intro r hr; simp at hr; rcases hr with hr | hr <;> first | (obtain ⟨a, _, rfl⟩ := hr; simp [scal]; done) | (subst hr; simp [scal]; done)) | assumption) (by first | exact rowLen_nil _ | exact rowLen_map (fun _ => rfl) | exact flat_map (fun _ => rfl) _ | exact flat_app (flat_map (fun _ => rfl) _) (flat_map (fun _ => rfl) _) | (simp only [rowLen_append, rowLen_cons, rowLen_nil]; done) | (simp [RowLen, FlatRows, scal]; done) | (intro r hr; simp at hr; rcases hr with hr | hr <;> first | (obtain ⟨a, _, rfl⟩ := hr; simp [scal]; done) | (subst hr; simp [scal]; done)) | assumption) (by simp; omega) (by simp; omega) (by first | exact rowLen_nil _ | exact rowLen_map (fun _ => rfl) | exact flat_map (fun _ => rfl) _ | exact flat_app (flat_map (fun _ => rfl) _) (flat_map (fun _ => rfl) _) | (simp only [rowLen_append, rowLen_cons, rowLen_nil]; done) | (simp [RowLen, FlatRows, scal]; done) | (intro r hr; simp at hr; rcases hr with hr | hr <;> first | (obtain ⟨a, _, rfl⟩ := hr; simp [scal]; done) | (subst hr; simp [scal]; done)) | assumption) (by decide) (by decide) rfl rfl ?_; try simp only [upd_mk, del_cons, del_nil, Nat.reduceEqDiff, reduceIte, bB]) | (refine gp fun KK hK => ?_; first | (refine ⟨by first | exact eq_hop, ?_⟩; (first | refine hK _ _ ?_ | refine hK _ (nz ?_)); clear hK KK) | ((repeat refine And.intro (by first | omega | (rw [getD_map_lt (by omega)]; rfl) | (simp; first | done | omega)) ?_); first | (refine hK _ _ ?_; clear hK KK) | (refine hK _ ?_; clear hK KK; try simp only [upd_mk]))) | ((with_reducible first | refine o_nil (hT _ _ ?_) | refine h_nil (hT _ ?_)); clear hT KT) | (with_reducible first | refine ht_nil ?_ | refine dq_succ ?_ | refine dq_f ?_ | refine dq_t ?_) | ((first | refine gd fun AA BB hA hB => ?_ | refine tc fun AA BB hA hB => ?_); first | (refine go ?_; (first | refine hA ?_ | refine hB ?_); clear hA hB AA BB) | (refine go2 ?_ ?_ <;> intro hb <;> (first | refine hA ?_ | refine hB ?_) <;> clear hA hB AA BB <;> (try simp only [hb, decide_true, decide_false]) <;> (try (exfalso; first | (simp at hb; done) | (simp at hb; omega))))) | (with_reducible refine skS ?_; simp only [upd_mk]) | (refine t_drawXT (id := 6) 11 (by kernel_rfl) (by decide) (by kernel_rfl) fun KT hT => ?_) | with_reducible refine tdr fun KT hT => ?_ | with_reducible refine bY ?_)
         all_goals clear fx)
        (refine fe ?_; try exact trivial)
        rw [hr, if_neg (by omega), hd]
        simp
      · have e4 : (x == n) = true := by simp; omega
        (have fx := And.intro (@e1) (And.intro (@e2) (And.intro (@e3) (And.intro (@e4) (@h))))
         repeat' (first | with_reducible refine go ?_ | with_reducible refine t_region fun KT hT => ?_ | (refine gp fun KK hK => ?_; first | (refine ⟨by first | exact eq_hop, ?_⟩; (first | refine hK _ _ ?_ | refine hK _ (nz ?_)); clear hK KK) | ((repeat refine And.intro (by first | omega | (rw [getD_map_lt (by omega)]; rfl) | (simp; first | done | omega)) ?_); first | (refine hK _ _ ?_; clear hK KK) | (refine hK _ ?_; clear hK KK; try simp only [upd_mk]))) | ((with_reducible first | refine o_nil (hT _ _ ?_) | refine h_nil (hT _ ?_)); clear hT KT) | ((first | refine gd fun AA BB hA hB => ?_ | refine tc fun AA BB hA hB => ?_); first | (refine go ?_; (first | refine hA ?_ | refine hB ?_); clear hA hB AA BB) | (refine go2 ?_ ?_ <;> intro hb <;> (first | refine hA ?_ | refine hB ?_) <;> clear hA hB AA BB <;> (try simp only [hb, decide_true, decide_false]) <;> (try (exfalso; first | (simp at hb; done) | (simp at hb; omega))))) | (with_reducible refine skS ?_; simp only [upd_mk]) | with_reducible refine tdr fun KT hT => ?_ | with_reducible refine bY ?_)
         all_goals clear fx)
        (refine fe ?_; try exact trivial)
        rw [hr, if_pos (by simpa using e4), ← hd, List.take_append_drop]
  · have e1 : decide ((k : Int) < (l.length : Int)) = false := decide_eq_false (by omega)
    (have fx := And.intro (@e1) (And.intro (@e5) (And.intro (@e6) (And.intro (@e7) (And.intro (@boundQ_eq) (And.intro (@hk) (And.intro (@Nat.zero_le) (And.intro (@Nat.le_refl) (@rowLen_ints))))))))
     repeat' (first | with_reducible refine go ?_ | with_reducible refine t_region fun KT hT => ?_ | (refine kd 10 ?_; (first | with_reducible refine x_nil ?_ | with_reducible refine xt_nil ?_); simp only [realS_mk, realM_mk, pvS, pv, List.nil_append, List.cons_append]; try (refine hT _ _ ?_; clear hT KT)) | (with_reducible refine x_take ?_) | (refine kd 11 ?_; refine x_alloc (by first | exact congrArg TI.zero ti3 | exact congrArg TI.zero ti44) (by simp) (by rfl) (by rfl) (by decide) rfl rfl ?_; try simp only [upd_mk]) | (refine kd 12 ?_; refine x_empty (by first | exact congrArg TI.d ti3 | exact congrArg TI.d ti44) (by decide) (by rfl) (by decide) rfl rfl ?_; try simp only [upd_mk]) | (refine kd 13 ?_; refine x_append (by first | exact congrArg TI.d ti3 | exact congrArg TI.d ti44) (by decide) (by rfl) (by rfl) rfl (by simp) (by simp only [evV, ev, vw, view, viewL, cD, rowsOf, bA, bB, Nat.reduceEqDiff, reduceIte, bT, gx, fx]; rfl) (by first | exact rowLen_nil _ | exact rowLen_map (fun _ => rfl) | exact flat_map (fun _ => rfl) _ | exact flat_app (flat_map (fun _ => rfl) _) (flat_map (fun _ => rfl) _) | (simp only [rowLen_append, rowLen_cons, rowLen_nil]; done) | (simp [RowLen, FlatRows, scal]; done) | (intro r hr; simp at hr; rcases hr with hr | hr <;> first | (obtain ⟨a, _, rfl⟩ := hr; simp [scal]; done) | (subst hr; simp [scal]; done)) | assumption) (by first | exact rowLen_nil _ | exact rowLen_map (fun _ => rfl) | exact flat_map (fun _ => rfl) _ | exact flat_app (flat_map (fun _ => rfl) _) (flat_map (fun _ => rfl) _) | (simp only [rowLen_append, rowLen_cons, rowLen_nil]; done) | (simp [RowLen, FlatRows, scal]; done) | (intro r hr; simp at hr; rcases hr with hr | hr <;> first | (obtain ⟨a, _, rfl⟩ := hr; simp [scal]; done) | (subst hr; simp [scal]; done)) | assumption) (by simp; omega) (by simp; omega) (by first | exact rowLen_nil _ | exact rowLen_map (fun _ => rfl) | exact flat_map (fun _ => rfl) _ | exact flat_app (flat_map (fun _ => rfl) _) (flat_map (fun _ => rfl) _) | (simp only [rowLen_append, rowLen_cons, rowLen_nil]; done) | (simp [RowLen, FlatRows, scal]; done) | (intro r hr; simp at hr; rcases hr with hr | hr <;> first | (obtain ⟨a, _, rfl⟩ := hr; simp [scal]; done) | (subst hr; simp [scal]; done)) | assumption) (by decide) (by decide) rfl rfl ?_; try simp only [upd_mk, del_cons, del_nil, Nat.reduceEqDiff, reduceIte, bB]) | (refine gp fun KK hK => ?_; first | (refine ⟨by first | exact eq_hop, ?_⟩; (first | refine hK _ _ ?_ | refine hK _ (nz ?_)); clear hK KK) | ((repeat refine And.intro (by first | omega | (rw [getD_map_lt (by omega)]; rfl) | (simp; first | done | omega)) ?_); first | (refine hK _ _ ?_; clear hK KK) | (refine hK _ ?_; clear hK KK; try simp only [upd_mk]))) | ((with_reducible first | refine o_nil (hT _ _ ?_) | refine h_nil (hT _ ?_)); clear hT KT) | (with_reducible first | refine ht_nil ?_ | refine dq_succ ?_ | refine dq_f ?_ | refine dq_t ?_) | ((first | refine gd fun AA BB hA hB => ?_ | refine tc fun AA BB hA hB => ?_); first | (refine go ?_; (first | refine hA ?_ | refine hB ?_); clear hA hB AA BB) | (refine go2 ?_ ?_ <;> intro hb <;> (first | refine hA ?_ | refine hB ?_) <;> clear hA hB AA BB <;> (try simp only [hb, decide_true, decide_false]) <;> (try (exfalso; first | (simp at hb; done) | (simp at hb; omega))))) | (with_reducible refine skS ?_; simp only [upd_mk]) | (refine t_drawXT (id := 6) 11 (by kernel_rfl) (by decide) (by kernel_rfl) fun KT hT => ?_) | with_reducible refine tdr fun KT hT => ?_ | with_reducible refine bY ?_)
     all_goals clear fx)
    (refine fe ?_; try exact trivial)
    rw [hr, List.drop_of_length_le h, putI]
    simp [List.drop_of_length_le h]

set_option maxHeartbeats 4000000 in
theorem intf_s (t : Tp) (r : Int) (h2 : t.links.length ≤ 1048576) : ACall Tryz.prog 99 [.agg (tpRow t), .int .i64 r] (.sl ((intf t r t.links.length).map intRow)) [] := by
  refine acall_mk Tryz.func99 rfl Tryz.ntmps99 Tryz.results99 (by kernel_rfl) (by simp) ?_
  simp only [args, Nat.zero_add, Nat.reduceAdd]
  repeat' (first | with_reducible refine go ?_ | with_reducible refine t_region fun KT hT => ?_ | (refine gp fun KK hK => ?_; first | (refine ⟨by first | exact eq_hop, ?_⟩; (first | refine hK _ _ ?_ | refine hK _ (nz ?_)); clear hK KK) | ((repeat refine And.intro (by first | omega | (rw [getD_map_lt (by omega)]; rfl) | (simp; first | done | omega)) ?_); first | (refine hK _ _ ?_; clear hK KK) | (refine hK _ ?_; clear hK KK; try simp only [upd_mk]))) | ((with_reducible first | refine o_nil (hT _ _ ?_) | refine h_nil (hT _ ?_)); clear hT KT) | ((first | refine gd fun AA BB hA hB => ?_ | refine tc fun AA BB hA hB => ?_); first | (refine go ?_; (first | refine hA ?_ | refine hB ?_); clear hA hB AA BB) | (refine go2 ?_ ?_ <;> intro hb <;> (first | refine hA ?_ | refine hB ?_) <;> clear hA hB AA BB <;> (try simp only [hb, decide_true, decide_false]) <;> (try (exfalso; first | (simp at hb; done) | (simp at hb; omega))))) | (with_reducible refine skS ?_; simp only [upd_mk]) | with_reducible refine tdr fun KT hT => ?_ | with_reducible refine bY ?_)
  refine t_loop (fun k : Nat => [(1, .int .i64 r), (2, .ptr 2 0 0), (5, .sl ((intf t r k).map intRow)), (6, .int .i64 k)]) (fun _ => [(2, .box (tpRow t))]) (fun k => k ≤ t.links.length) (fun k => t.links.length - k) 0 (imp_freeze 7 rfl (imp_keep (by simp [Keep, mk, frzP, frz, intf]) (by simp [KeepT, mkT, del, frzT, Ent.frz, frzL, frz]) rfl)) (Nat.zero_le _) ?_
  intro k hk
  have hlen := intf_len t r k hk
  rcases Nat.lt_or_ge k t.links.length with h | h
  · have e1 : decide ((k : Int) < (t.links.length : Int)) = true := decide_eq_true (by omega)
    have e2 := getD_map_lt (f := lkRow) h
    have st := intf_step t r h
    rw [intfL] at st
    have hp1 := putI_len (intf t r k) t.links[k].ai
    have c1 := put_s (intf t r k) t.links[k].ai (by omega)
    have c2 := put_s (intf t r k) t.links[k].bi (by omega)
    have c3 := put_s (putI (intf t r k) t.links[k].ai) t.links[k].bi (by omega)
    rcases Decidable.em (t.links[k].a = r) with q1 | q1 <;> rcases Decidable.em (t.links[k].b = r) with q2 | q2
    all_goals simp only [q1, q2, if_true, if_false] at st
    · have d1 : (t.links[k].a == r) = true := by simpa using q1
      have d2 : (t.links[k].b == r) = true := by simpa using q2
      (have fx := And.intro (@e1) (And.intro (@e2) (And.intro (@h) (And.intro (@d1) (@d2))))
       repeat' (first | with_reducible refine go ?_ | with_reducible refine t_region fun KT hT => ?_ | (refine gp fun KK hK => ?_; first | ((with_reducible first | refine .inl ⟨_, _, ⟨c1, rfl, csq⟩, hK _ _ (nz ?_)⟩ | refine .inl ⟨_, _, ⟨c3, rfl, csq⟩, hK _ _ (nz ?_)⟩ | refine ⟨_, ⟨c1, rfl, rfl, csq⟩, hK _ (nz ?_)⟩ | refine ⟨_, ⟨c3, rfl, rfl, csq⟩, hK _ (nz ?_)⟩); clear hK KK) | (refine ⟨by first | exact eq_hop, ?_⟩; (first | refine hK _ _ ?_ | refine hK _ (nz ?_)); clear hK KK) | ((repeat refine And.intro (by first | omega | (rw [getD_map_lt (by omega)]; rfl) | (simp; first | done | omega)) ?_); first | (refine hK _ _ ?_; clear hK KK) | (refine hK _ ?_; clear hK KK; try simp only [upd_mk]))) | ((with_reducible first | refine o_nil (hT _ _ ?_) | refine h_nil (hT _ ?_)); clear hT KT) | ((first | refine gd fun AA BB hA hB => ?_ | refine tc fun AA BB hA hB => ?_); first | (refine go ?_; (first | refine hA ?_ | refine hB ?_); clear hA hB AA BB) | (refine go2 ?_ ?_ <;> intro hb <;> (first | refine hA ?_ | refine hB ?_) <;> clear hA hB AA BB <;> (try simp only [hb, decide_true, decide_false]) <;> (try (exfalso; first | (simp at hb; done) | (simp at hb; omega))))) | (with_reducible refine skS ?_; simp only [upd_mk]) | with_reducible refine tdr fun KT hT => ?_ | with_reducible refine bY ?_)
       all_goals clear fx)
      refine k_rnd (k + 1) (imp_keep ?_ ?_ rfl) h (by omega)
      · simp [Keep, mk, st, wrapS (show k < 4611686018427387904 by omega)]
      · simp [KeepT, mkT]
    · have d1 : (t.links[k].a == r) = true := by simpa using q1
      have d2 : (t.links[k].b == r) = false := by simpa using q2
      (have fx := And.intro (@e1) (And.intro (@e2) (And.intro (@h) (And.intro (@d1) (@d2))))
       repeat' (first | with_reducible refine go ?_ | with_reducible refine t_region fun KT hT => ?_ | (refine gp fun KK hK => ?_; first | ((with_reducible first | refine .inl ⟨_, _, ⟨c1, rfl, csq⟩, hK _ _ (nz ?_)⟩ | refine ⟨_, ⟨c1, rfl, rfl, csq⟩, hK _ (nz ?_)⟩); clear hK KK) | (refine ⟨by first | exact eq_hop, ?_⟩; (first | refine hK _ _ ?_ | refine hK _ (nz ?_)); clear hK KK) | ((repeat refine And.intro (by first | omega | (rw [getD_map_lt (by omega)]; rfl) | (simp; first | done | omega)) ?_); first | (refine hK _ _ ?_; clear hK KK) | (refine hK _ ?_; clear hK KK; try simp only [upd_mk]))) | ((with_reducible first | refine o_nil (hT _ _ ?_) | refine h_nil (hT _ ?_)); clear hT KT) | ((first | refine gd fun AA BB hA hB => ?_ | refine tc fun AA BB hA hB => ?_); first | (refine go ?_; (first | refine hA ?_ | refine hB ?_); clear hA hB AA BB) | (refine go2 ?_ ?_ <;> intro hb <;> (first | refine hA ?_ | refine hB ?_) <;> clear hA hB AA BB <;> (try simp only [hb, decide_true, decide_false]) <;> (try (exfalso; first | (simp at hb; done) | (simp at hb; omega))))) | (with_reducible refine skS ?_; simp only [upd_mk]) | with_reducible refine tdr fun KT hT => ?_ | with_reducible refine bY ?_)
       all_goals clear fx)
      refine k_rnd (k + 1) (imp_keep ?_ ?_ rfl) h (by omega)
      · simp [Keep, mk, st, wrapS (show k < 4611686018427387904 by omega)]
      · simp [KeepT, mkT]
    · have d1 : (t.links[k].a == r) = false := by simpa using q1
      have d2 : (t.links[k].b == r) = true := by simpa using q2
      (have fx := And.intro (@e1) (And.intro (@e2) (And.intro (@h) (And.intro (@d1) (@d2))))
       repeat' (first | with_reducible refine go ?_ | with_reducible refine t_region fun KT hT => ?_ | (refine gp fun KK hK => ?_; first | ((with_reducible first | refine .inl ⟨_, _, ⟨c2, rfl, csq⟩, hK _ _ (nz ?_)⟩ | refine ⟨_, ⟨c2, rfl, rfl, csq⟩, hK _ (nz ?_)⟩); clear hK KK) | (refine ⟨by first | exact eq_hop, ?_⟩; (first | refine hK _ _ ?_ | refine hK _ (nz ?_)); clear hK KK) | ((repeat refine And.intro (by first | omega | (rw [getD_map_lt (by omega)]; rfl) | (simp; first | done | omega)) ?_); first | (refine hK _ _ ?_; clear hK KK) | (refine hK _ ?_; clear hK KK; try simp only [upd_mk]))) | ((with_reducible first | refine o_nil (hT _ _ ?_) | refine h_nil (hT _ ?_)); clear hT KT) | ((first | refine gd fun AA BB hA hB => ?_ | refine tc fun AA BB hA hB => ?_); first | (refine go ?_; (first | refine hA ?_ | refine hB ?_); clear hA hB AA BB) | (refine go2 ?_ ?_ <;> intro hb <;> (first | refine hA ?_ | refine hB ?_) <;> clear hA hB AA BB <;> (try simp only [hb, decide_true, decide_false]) <;> (try (exfalso; first | (simp at hb; done) | (simp at hb; omega))))) | (with_reducible refine skS ?_; simp only [upd_mk]) | with_reducible refine tdr fun KT hT => ?_ | with_reducible refine bY ?_)
       all_goals clear fx)
      refine k_rnd (k + 1) (imp_keep ?_ ?_ rfl) h (by omega)
      · simp [Keep, mk, st, wrapS (show k < 4611686018427387904 by omega)]
      · simp [KeepT, mkT]
    · have d1 : (t.links[k].a == r) = false := by simpa using q1
      have d2 : (t.links[k].b == r) = false := by simpa using q2
      (have fx := And.intro (@e1) (And.intro (@e2) (And.intro (@h) (And.intro (@d1) (@d2))))
       repeat' (first | with_reducible refine go ?_ | with_reducible refine t_region fun KT hT => ?_ | (refine gp fun KK hK => ?_; first | ((with_reducible first | refine .inl ⟨_, _, ⟨c2, rfl, csq⟩, hK _ _ (nz ?_)⟩ | refine ⟨_, ⟨c2, rfl, rfl, csq⟩, hK _ (nz ?_)⟩); clear hK KK) | (refine ⟨by first | exact eq_hop, ?_⟩; (first | refine hK _ _ ?_ | refine hK _ (nz ?_)); clear hK KK) | ((repeat refine And.intro (by first | omega | (rw [getD_map_lt (by omega)]; rfl) | (simp; first | done | omega)) ?_); first | (refine hK _ _ ?_; clear hK KK) | (refine hK _ ?_; clear hK KK; try simp only [upd_mk]))) | ((with_reducible first | refine o_nil (hT _ _ ?_) | refine h_nil (hT _ ?_)); clear hT KT) | ((first | refine gd fun AA BB hA hB => ?_ | refine tc fun AA BB hA hB => ?_); first | (refine go ?_; (first | refine hA ?_ | refine hB ?_); clear hA hB AA BB) | (refine go2 ?_ ?_ <;> intro hb <;> (first | refine hA ?_ | refine hB ?_) <;> clear hA hB AA BB <;> (try simp only [hb, decide_true, decide_false]) <;> (try (exfalso; first | (simp at hb; done) | (simp at hb; omega))))) | (with_reducible refine skS ?_; simp only [upd_mk]) | with_reducible refine tdr fun KT hT => ?_ | with_reducible refine bY ?_)
       all_goals clear fx)
      refine k_rnd (k + 1) (imp_keep ?_ ?_ rfl) h (by omega)
      · simp [Keep, mk, st, wrapS (show k < 4611686018427387904 by omega)]
      · simp [KeepT, mkT]
  · obtain rfl : k = t.links.length := by omega
    have e1 : decide ((t.links.length : Int) < (t.links.length : Int)) = false := by simp
    (have fx := (@e1)
     repeat' (first | with_reducible refine go ?_ | with_reducible refine t_region fun KT hT => ?_ | (refine gp fun KK hK => ?_; first | (refine ⟨by first | exact eq_hop, ?_⟩; (first | refine hK _ _ ?_ | refine hK _ (nz ?_)); clear hK KK) | ((repeat refine And.intro (by first | omega | (rw [getD_map_lt (by omega)]; rfl) | (simp; first | done | omega)) ?_); first | (refine hK _ _ ?_; clear hK KK) | (refine hK _ ?_; clear hK KK; try simp only [upd_mk]))) | ((with_reducible first | refine o_nil (hT _ _ ?_) | refine h_nil (hT _ ?_)); clear hT KT) | ((first | refine gd fun AA BB hA hB => ?_ | refine tc fun AA BB hA hB => ?_); first | (refine go ?_; (first | refine hA ?_ | refine hB ?_); clear hA hB AA BB) | (refine go2 ?_ ?_ <;> intro hb <;> (first | refine hA ?_ | refine hB ?_) <;> clear hA hB AA BB <;> (try simp only [hb, decide_true, decide_false]) <;> (try (exfalso; first | (simp at hb; done) | (simp at hb; omega))))) | (with_reducible refine skS ?_; simp only [upd_mk]) | with_reducible refine tdr fun KT hT => ?_ | with_reducible refine bY ?_)
     all_goals clear fx)
    (refine fe ?_; try exact trivial)

end Go.Proofs.YtmiclkgkfkcnoaaGreat
