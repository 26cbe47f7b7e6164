/- The functions of this program, walked by the evaluator: part zb, 3. -/
import Derived.Test.YtmiclkgkfkcnoaaGreatLy1
import Derived.Test.YtmiclkgkfkcnoaaGreatLz1
import Derived.Test.YtmiclkgkfkcnoaaGreatLzb2
namespace Go.Proofs.YtmiclkgkfkcnoaaGreat
open Go.RowKit
set_option linter.unusedSimpArgs false
set_option linter.unusedVariables false
set_option maxRecDepth 100000
set_option linter.defProp false
namespace GLzb3
def gx := And.intro (@hopRow.eq_1) (And.intro (@polRow.eq_1) (And.intro (@segRow.eq_1) (And.intro (@intRow.eq_1) (And.intro (@rowLen_ints) (And.intro (@rowLen_nil) (And.intro (@rowLen_cons) (And.intro (@rowLen_append) (And.intro (@lenL_app) (And.intro (@byteRow.eq_1) (And.intro (@rowLen_bytes) (And.intro (@bytesOf_map) (And.intro (@bytesOf_cons) (And.intro (@bytesOf_one) (And.intro (@rowLen_strs) (And.intro (@asRow.eq_1) (And.intro (@lkRow.eq_1) (And.intro (@tpRow.eq_1) (And.intro (@rowLen_hops) (And.intro (@rowLen_ases) (And.intro (@rowLen_links) (And.intro (@bcRow.eq_1) (And.intro (@rowLen_bcs) (@u8Row.eq_1)))))))))))))))))))))))
end GLzb3
open GLzb3
set_option maxHeartbeats 16000000 in
theorem l5Draw_e (b : List UInt8) (zb : b.length ≤ 1048576) (i : Nat) (h : Int) : ECall Tryz.prog 75 [.ptr 0 0 0] [curE b i h] 3 (fun x : Tp × Nat × Int => Dt x.1) (fun _ => .agg [.fs 1, .fs 2]) (fun x => [curE b x.2.1 x.2.2, .row (x.1.ases.map asRow), .row (x.1.links.map lkRow)]) := by
  refine ecall_mk Tryz.func75 rfl Tryz.ntmps75 Tryz.results75 (by kernel_rfl) (by simp) (by decide) (by simp) rfl rfl ?_
  simp only [args, pinE, bk, bkL, bkE, bkEs, setE, Nat.zero_add, Nat.reduceAdd, bA, bB]
  repeat' (first | with_reducible refine go ?_ | with_reducible refine t_region fun KT hT => ?_ | (refine gp fun KK hK => ?_; first | (refine ⟨by first | exact eq_hop, ?_⟩; (first | refine hK _ _ ?_ | refine hK _ (nz ?_)); clear hK KK) | ((repeat refine And.intro (by first | omega | (rw [getD_map_lt (by omega)]; rfl) | (simp; first | done | omega)) ?_); first | (refine hK _ _ ?_; clear hK KK) | (refine hK _ ?_; clear hK KK; try simp only [upd_mk]))) | ((with_reducible first | refine o_nil (hT _ _ ?_) | refine h_nil (hT _ ?_)); clear hT KT) | ((first | refine gd fun AA BB hA hB => ?_ | refine tc fun AA BB hA hB => ?_); first | (refine go ?_; (first | refine hA ?_ | refine hB ?_); clear hA hB AA BB) | (refine go2 ?_ ?_ <;> intro hb <;> (first | refine hA ?_ | refine hB ?_) <;> clear hA hB AA BB <;> (try simp only [hb, decide_true, decide_false]) <;> (try (exfalso; first | (simp at hb; done) | (simp at hb; omega))))) | (with_reducible refine skS ?_; simp only [upd_mk]) | with_reducible refine tdr fun KT hT => ?_ | with_reducible refine bY ?_)
  (refine gp fun KK hK => ?_; refine .inr (.inr (eQ [_] (l1Below_e b zb _ _ _) (fun x1 hx1 => hK _ _ ?_))); refine nze ?_; clear hK KK)
  obtain ⟨cn, hcn, ecn⟩ : ∃ cn : Nat, (1 ≤ cn ∧ cn ≤ 3) ∧ IntKind.i64.wrap (1 + (x1.1 : Int)) = (cn : Int) := ⟨1 + x1.1, by omega, by rw [wr64 (by omega) (by omega)]; omega⟩
  (have fx := (@ecn)
   repeat' (first | with_reducible refine go ?_ | with_reducible refine t_region fun KT hT => ?_ | (refine gp fun KK hK => ?_; first | (refine ⟨by first | exact eq_hop, ?_⟩; (first | refine hK _ _ ?_ | refine hK _ (nz ?_)); clear hK KK) | ((repeat refine And.intro (by first | omega | (rw [getD_map_lt (by omega)]; rfl) | (simp; first | done | omega)) ?_); first | (refine hK _ _ ?_; clear hK KK) | (refine hK _ ?_; clear hK KK; try simp only [upd_mk]))) | ((with_reducible first | refine o_nil (hT _ _ ?_) | refine h_nil (hT _ ?_)); clear hT KT) | ((first | refine gd fun AA BB hA hB => ?_ | refine tc fun AA BB hA hB => ?_); first | (refine go ?_; (first | refine hA ?_ | refine hB ?_); clear hA hB AA BB) | (refine go2 ?_ ?_ <;> intro hb <;> (first | refine hA ?_ | refine hB ?_) <;> clear hA hB AA BB <;> (try simp only [hb, decide_true, decide_false]) <;> (try (exfalso; first | (simp at hb; done) | (simp at hb; omega))))) | (with_reducible refine skS ?_; simp only [upd_mk]) | with_reducible refine tdr fun KT hT => ?_ | with_reducible refine bY ?_)
   all_goals clear fx)
  (refine gp fun KK hK => ?_; refine .inr (.inr (eQ [_] (l1Below_e b zb _ _ _) (fun x2 hx2 => hK _ _ ?_))); refine nze ?_; clear hK KK)
  have hln : x2.1 ≤ 5 := by omega
  obtain ⟨ln, i2, h2⟩ := x2
  simp only at hln
  clear hx2
  repeat' (first | with_reducible refine go ?_ | with_reducible refine t_region fun KT hT => ?_ | (refine gp fun KK hK => ?_; first | (refine ⟨by first | exact eq_hop, ?_⟩; (first | refine hK _ _ ?_ | refine hK _ (nz ?_)); clear hK KK) | ((repeat refine And.intro (by first | omega | (rw [getD_map_lt (by omega)]; rfl) | (simp; first | done | omega)) ?_); first | (refine hK _ _ ?_; clear hK KK) | (refine hK _ ?_; clear hK KK; try simp only [upd_mk]))) | ((with_reducible first | refine o_nil (hT _ _ ?_) | refine h_nil (hT _ ?_)); clear hT KT) | ((first | refine gd fun AA BB hA hB => ?_ | refine tc fun AA BB hA hB => ?_); first | (refine go ?_; (first | refine hA ?_ | refine hB ?_); clear hA hB AA BB) | (refine go2 ?_ ?_ <;> intro hb <;> (first | refine hA ?_ | refine hB ?_) <;> clear hA hB AA BB <;> (try simp only [hb, decide_true, decide_false]) <;> (try (exfalso; first | (simp at hb; done) | (simp at hb; omega))))) | (with_reducible refine skS ?_; simp only [upd_mk]) | with_reducible refine tdr fun KT hT => ?_ | with_reducible refine bY ?_)
  have etot : IntKind.i64.wrap ((cn : Int) + (ln : Int)) = ((cn + ln : Nat) : Int) := by rw [wr64 (by omega) (by omega)]; omega
  refine t_loop (fun q : Nat × List As × Nat × Int => [(0, .ptr 900 0 0), (2, .ptr 2 0 0), (3, .ptr 3 0 0), (4, .int .i64 (cn : Int)), (5, .int .i64 (ln : Int)), (6, .int .i64 (q.1 : Int))]) (fun q => [(900, curE b q.2.2.1 q.2.2.2), (198, .row (q.2.1.map asRow)), (199, .row []), (3, .box [.fs 198, .fs 199]), (2, .box [.nl, .nl])]) (fun q => q.1 ≤ cn + ln ∧ q.2.1.length = q.1 ∧ ∀ a ∈ q.2.1, asW a) (fun q => cn + ln - q.1) (0, [], i2, h2) (imp_nilB 3 0 198 rfl rfl rfl (imp_nilB 3 1 199 rfl rfl rfl (imp_keep (by simp [Keep, mk]) (by simp [KeepT, mkT]) rfl))) ⟨by simp, rfl, by simp⟩ ?_
  rintro ⟨k, A, i3, h3⟩ ⟨hk, hA, wA⟩
  simp only at hk hA wA
  rcases Nat.lt_or_ge k (cn + ln) with h | h
  · have e1 : decide ((k : Int) < ((cn + ln : Nat) : Int)) = true := decide_eq_true (by omega)
    (have fx := And.intro (@e1) (And.intro (@etot) (@rowLen_ases))
     repeat' (first | with_reducible refine go ?_ | with_reducible refine t_region fun KT hT => ?_ | (refine kd 20 ?_; refine r_nil ?_; simp only [realS_mk, realM_mk, pvS, pv, List.nil_append, List.cons_append]; try (refine hT _ _ ?_; clear hT KT)) | (refine kd 22 ?_; refine r_alloc (by first | exact congrArg TI.zero ti3 | exact congrArg TI.zero ti24 | exact congrArg TI.zero ti25 | exact congrArg TI.zero ti27 | exact congrArg TI.zero ti80 | exact congrArg TI.zero ti84) ?_) | (refine kd 23 ?_; refine r_store (hc := rfl) rfl fun KK hK => ?_; refine hK _ ?_; clear hK KK; try simp only [pv, del_cons, del_nil, upd_mk, Nat.reduceEqDiff, reduceIte]) | (refine kd 24 ?_; (refine r_ec (l1Below_e b zb _ _ _) (fun x hx => ?_); refine nze ?_)) | ((first | (refine kd 23 ?_; first | refine r_ws (hc := rfl) rfl rfl fun KK hK => ?_ | refine r_g (hc := rfl) fun KK hK => ?_) | (refine kd 24 ?_; refine r_val (hc := .inl rfl) fun KK hK => ?_) | (refine kd 21 ?_; first | refine r_val (hc := .inl rfl) fun KK hK => ?_ | refine r_val (hc := .inr ⟨rfl, rfl⟩) fun KK hK => ?_ | refine r_g (hc := rfl) fun KK hK => ?_) | refine gp fun KK hK => ?_); first | ((first | (refine .inr (.inr (eQ [_] (l1Below_e b zb _ _ _) (fun x hx => hK _ _ ?_))); refine nze ?_)); clear hK KK) | (refine ⟨by first | exact eq_hop, ?_⟩; (first | refine hK _ _ ?_ | refine hK _ (nz ?_)); clear hK KK) | ((repeat refine And.intro (by first | omega | (rw [getD_map_lt (by omega)]; rfl) | (simp; first | done | omega)) ?_); first | (refine hK _ _ ?_; clear hK KK) | (refine hK _ ?_; clear hK KK; try simp only [upd_mk]))) | ((with_reducible first | refine o_nil (hT _ _ ?_) | refine h_nil (hT _ ?_)); clear hT KT) | ((first | refine gd fun AA BB hA hB => ?_ | refine tc fun AA BB hA hB => ?_); first | (refine go ?_; (first | refine hA ?_ | refine hB ?_); clear hA hB AA BB) | (refine go2 ?_ ?_ <;> intro hb <;> (first | refine hA ?_ | refine hB ?_) <;> clear hA hB AA BB <;> (try simp only [hb, decide_true, decide_false]) <;> (try (exfalso; first | (simp at hb; done) | (simp at hb; omega))))) | (with_reducible refine skS ?_; simp only [upd_mk]) | (refine t_drawR (id := 7) [0, 1, 2, 4, 5, 6, 7, 11, 3, 8, 9, 10, 12, 13, 14, 15, 16, 17] [30, 35] [] [42] [] [900] fun KT hT => ?_; simp only [permL, pickL, List.cons_append, List.nil_append]) | with_reducible refine tdr fun KT hT => ?_ | with_reducible refine bY ?_)
     all_goals clear fx)
    rename_i x3 p3
    refine k_rnd (k + 1, A ++ [⟨(x3.1 : Int), decide ((k : Int) < (cn : Int)), IntKind.i64.wrap (IntKind.i64.wrap (1 + IntKind.i64.wrap ((x.1 : Int) * 8)) + (k : Int))⟩], x.2.1, x.2.2) (imp_keep ?_ ?_ rfl) ⟨h, by simp [hA], ?_⟩ (by simp only; omega)
    · simp [Keep, mk, wrapS (show k < 4611686018427387904 by omega)]
    · simp [KeepT, mkT]
    · intro a ha
      rcases List.mem_append.1 ha with ha | ha
      · exact wA a ha
      · rw [List.mem_singleton] at ha
        subst ha
        exact ⟨by unfold i64R; simp only; omega, wrap_rng _⟩
  · have e1 : decide ((k : Int) < ((cn + ln : Nat) : Int)) = false := decide_eq_false (by omega)
    have hN : A.length = cn + ln := by omega
    have hA20 : A.length ≤ 1048576 := by omega
    clear hA h hk
    (have fx := And.intro (@e1) (@etot)
     repeat' (first | with_reducible refine go ?_ | with_reducible refine t_region fun KT hT => ?_ | (refine gp fun KK hK => ?_; first | (refine ⟨by first | exact eq_hop, ?_⟩; (first | refine hK _ _ ?_ | refine hK _ (nz ?_)); clear hK KK) | ((repeat refine And.intro (by first | omega | (rw [getD_map_lt (by omega)]; rfl) | (simp; first | done | omega)) ?_); first | (refine hK _ _ ?_; clear hK KK) | (refine hK _ ?_; clear hK KK; try simp only [upd_mk]))) | ((with_reducible first | refine o_nil (hT _ _ ?_) | refine h_nil (hT _ ?_)); clear hT KT) | ((first | refine gd fun AA BB hA hB => ?_ | refine tc fun AA BB hA hB => ?_); first | (refine go ?_; (first | refine hA ?_ | refine hB ?_); clear hA hB AA BB) | (refine go2 ?_ ?_ <;> intro hb <;> (first | refine hA ?_ | refine hB ?_) <;> clear hA hB AA BB <;> (try simp only [hb, decide_true, decide_false]) <;> (try (exfalso; first | (simp at hb; done) | (simp at hb; omega))))) | (with_reducible refine skS ?_; simp only [upd_mk]) | with_reducible refine tdr fun KT hT => ?_ | with_reducible refine bY ?_)
     all_goals clear fx)
    refine t_loop (fun q : Nat × List Lk × Nat × Int => [(0, .ptr 900 0 0), (2, .ptr 2 0 0), (3, .ptr 3 0 0), (4, .int .i64 (cn : Int)), (7, .int .i64 (q.1 : Int))]) (fun q => [(900, curE b q.2.2.1 q.2.2.2), (198, .row (A.map asRow)), (199, .row (q.2.1.map lkRow)), (3, .box [.fs 198, .fs 199]), (2, .box [.nl, .nl])]) (fun q => (1 ≤ q.1 ∧ q.1 ≤ cn) ∧ Jt q.2.1 ∧ q.2.1.length ≤ 2 * q.1) (fun q => cn - q.1) (1, [], i3, h3) (imp_keep (by simp [Keep, mk]) (by simp [KeepT, mkT]) rfl) ⟨⟨by simp, hcn.1⟩, Jt_nil, by simp⟩ ?_
    rintro ⟨m, L, i4, h4⟩ ⟨⟨hm1, hm⟩, jL, lL⟩
    simp only at hm1 hm jL lL
    rcases Nat.lt_or_ge m cn with h' | h'
    · have f1 : decide ((m : Int) < (cn : Int)) = true := decide_eq_true (by omega)
      (have fx := (@f1)
       repeat' (first | with_reducible refine go ?_ | with_reducible refine t_region fun KT hT => ?_ | (refine gp fun KK hK => ?_; first | (refine ⟨by first | exact eq_hop, ?_⟩; (first | refine hK _ _ ?_ | refine hK _ (nz ?_)); clear hK KK) | ((repeat refine And.intro (by first | omega | (rw [getD_map_lt (by omega)]; rfl) | (simp; first | done | omega)) ?_); first | (refine hK _ _ ?_; clear hK KK) | (refine hK _ ?_; clear hK KK; try simp only [upd_mk]))) | ((with_reducible first | refine o_nil (hT _ _ ?_) | refine h_nil (hT _ ?_)); clear hT KT) | ((first | refine gd fun AA BB hA hB => ?_ | refine tc fun AA BB hA hB => ?_); first | (refine go ?_; (first | refine hA ?_ | refine hB ?_); clear hA hB AA BB) | (refine go2 ?_ ?_ <;> intro hb <;> (first | refine hA ?_ | refine hB ?_) <;> clear hA hB AA BB <;> (try simp only [hb, decide_true, decide_false]) <;> (try (exfalso; first | (simp at hb; done) | (simp at hb; omega))))) | (with_reducible refine skS ?_; simp only [upd_mk]) | with_reducible refine tdr fun KT hT => ?_ | with_reducible refine bY ?_)
       all_goals clear fx)
      (refine gp fun KK hK => ?_; refine .inr (.inr (eQ [_] (l1Below_e b zb _ _ _) (fun y1 hy1 => hK _ _ ?_))); refine nze ?_; clear hK KK)
      have hne : (y1.1 : Int) ≠ (m : Int) := by omega
      have j1 := Jt_add 1 hne jL
      have l1 := addL_len L (y1.1 : Int) (m : Int) 1
      have c1 := add_e ⟨A, L⟩ (y1.1 : Int) (m : Int) 1 hA20 (by simp only; omega)
      simp only at c1
      have wm := wrapS (show m < 4611686018427387904 by omega)
      (have fx := (@wm)
       repeat' (first | with_reducible refine go ?_ | with_reducible refine t_region fun KT hT => ?_ | (refine gp fun KK hK => ?_; first | ((first | (refine .inr (.inr (eQ [_, _, _] (c1) (fun x hx => hK _ _ ?_))); refine nze ?_) | (refine .inr (.inr (eQ [_] (l1Once_e b zb _ _ _) (fun x hx => hK _ _ ?_))); refine nze ?_)); clear hK KK) | (refine ⟨by first | exact eq_hop, ?_⟩; (first | refine hK _ _ ?_ | refine hK _ (nz ?_)); clear hK KK) | ((repeat refine And.intro (by first | omega | (rw [getD_map_lt (by omega)]; rfl) | (simp; first | done | omega)) ?_); first | (refine hK _ _ ?_; clear hK KK) | (refine hK _ ?_; clear hK KK; try simp only [upd_mk]))) | ((with_reducible first | refine o_nil (hT _ _ ?_) | refine h_nil (hT _ ?_)); clear hT KT) | ((first | refine gd fun AA BB hA hB => ?_ | refine tc fun AA BB hA hB => ?_); first | (refine go ?_; (first | refine hA ?_ | refine hB ?_); clear hA hB AA BB) | (refine go2 ?_ ?_ <;> intro hb <;> (first | refine hA ?_ | refine hB ?_) <;> clear hA hB AA BB <;> (try simp only [hb, decide_true, decide_false]) <;> (try (exfalso; first | (simp at hb; done) | (simp at hb; omega))))) | (with_reducible refine skS ?_; simp only [upd_mk]) | with_reducible refine tdr fun KT hT => ?_ | with_reducible refine bY ?_)
       all_goals clear fx)
      · (refine gp fun KK hK => ?_; refine .inr (.inr (eQ [_] (l1Below_e b zb _ _ _) (fun y2 hy2 => hK _ _ ?_))); refine nze ?_; clear hK KK)
        have hne2 : (y2.1 : Int) ≠ (m : Int) := by omega
        have j2 := Jt_add 1 hne2 j1
        have l2 := addL_len (addL L (y1.1 : Int) (m : Int) 1) (y2.1 : Int) (m : Int) 1
        have c2 := add_e ⟨A, addL L (y1.1 : Int) (m : Int) 1⟩ (y2.1 : Int) (m : Int) 1 hA20 (by simp only; omega)
        simp only at c2
        (have fx := (@wm)
         repeat' (first | with_reducible refine go ?_ | with_reducible refine t_region fun KT hT => ?_ | (refine gp fun KK hK => ?_; first | ((first | (refine .inr (.inr (eQ [_, _, _] (c2) (fun x hx => hK _ _ ?_))); refine nze ?_)); clear hK KK) | (refine ⟨by first | exact eq_hop, ?_⟩; (first | refine hK _ _ ?_ | refine hK _ (nz ?_)); clear hK KK) | ((repeat refine And.intro (by first | omega | (rw [getD_map_lt (by omega)]; rfl) | (simp; first | done | omega)) ?_); first | (refine hK _ _ ?_; clear hK KK) | (refine hK _ ?_; clear hK KK; try simp only [upd_mk]))) | ((with_reducible first | refine o_nil (hT _ _ ?_) | refine h_nil (hT _ ?_)); clear hT KT) | ((first | refine gd fun AA BB hA hB => ?_ | refine tc fun AA BB hA hB => ?_); first | (refine go ?_; (first | refine hA ?_ | refine hB ?_); clear hA hB AA BB) | (refine go2 ?_ ?_ <;> intro hb <;> (first | refine hA ?_ | refine hB ?_) <;> clear hA hB AA BB <;> (try simp only [hb, decide_true, decide_false]) <;> (try (exfalso; first | (simp at hb; done) | (simp at hb; omega))))) | (with_reducible refine skS ?_; simp only [upd_mk]) | with_reducible refine tdr fun KT hT => ?_ | with_reducible refine bY ?_)
         all_goals clear fx)
        refine k_rnd (m + 1, addL (addL L (y1.1 : Int) (m : Int) 1) (y2.1 : Int) (m : Int) 1, y2.2.1, y2.2.2) (imp_keep ?_ ?_ rfl) ⟨⟨by simp, h'⟩, j2, by simp only; omega⟩ (by simp only; omega)
        · simp [Keep, mk]
        · simp [KeepT, mkT]
      · refine k_rnd (m + 1, addL L (y1.1 : Int) (m : Int) 1, x.2.1, x.2.2) (imp_keep ?_ ?_ rfl) ⟨⟨by simp, h'⟩, j1, by simp only; omega⟩ (by simp only; omega)
        · simp [Keep, mk]
        · simp [KeepT, mkT]
    · have f1 : decide ((m : Int) < (cn : Int)) = false := decide_eq_false (by omega)
      have lL6 : L.length ≤ 6 := by omega
      clear hm1 hm h' lL
      (have fx := (@f1)
       repeat' (first | with_reducible refine go ?_ | with_reducible refine t_region fun KT hT => ?_ | (refine gp fun KK hK => ?_; first | (refine ⟨by first | exact eq_hop, ?_⟩; (first | refine hK _ _ ?_ | refine hK _ (nz ?_)); clear hK KK) | ((repeat refine And.intro (by first | omega | (rw [getD_map_lt (by omega)]; rfl) | (simp; first | done | omega)) ?_); first | (refine hK _ _ ?_; clear hK KK) | (refine hK _ ?_; clear hK KK; try simp only [upd_mk]))) | ((with_reducible first | refine o_nil (hT _ _ ?_) | refine h_nil (hT _ ?_)); clear hT KT) | ((first | refine gd fun AA BB hA hB => ?_ | refine tc fun AA BB hA hB => ?_); first | (refine go ?_; (first | refine hA ?_ | refine hB ?_); clear hA hB AA BB) | (refine go2 ?_ ?_ <;> intro hb <;> (first | refine hA ?_ | refine hB ?_) <;> clear hA hB AA BB <;> (try simp only [hb, decide_true, decide_false]) <;> (try (exfalso; first | (simp at hb; done) | (simp at hb; omega))))) | (with_reducible refine skS ?_; simp only [upd_mk]) | with_reducible refine tdr fun KT hT => ?_ | with_reducible refine bY ?_)
       all_goals clear fx)
      refine t_loop (fun q : Nat × List As × List Lk × Nat × Int => [(0, .ptr 900 0 0), (2, .ptr 2 0 0), (3, .ptr 3 0 0), (4, .int .i64 (cn : Int)), (8, .int .i64 (q.1 : Int))]) (fun q => [(900, curE b q.2.2.2.1 q.2.2.2.2), (198, .row (q.2.1.map asRow)), (199, .row (q.2.2.1.map lkRow)), (3, .box [.fs 198, .fs 199]), (2, .box [.nl, .nl])]) (fun q => (cn ≤ q.1 ∧ q.1 ≤ cn + ln) ∧ (q.2.1.length = cn + ln ∧ ∀ a ∈ q.2.1, asW a) ∧ Jt q.2.2.1 ∧ q.2.2.1.length ≤ 6 + 3 * q.1) (fun q => cn + ln - q.1) (cn, A, L, i4, h4) (imp_keep (by simp [Keep, mk]) (by simp [KeepT, mkT]) rfl) ⟨⟨Nat.le_refl _, by simp⟩, ⟨hN, wA⟩, jL, by simp only; omega⟩ ?_
      clear hN wA jL lL6 hA20 e1 f1
      rintro ⟨m, A, L, i4, h4⟩ ⟨⟨hm1, hm⟩, ⟨hN, wA⟩, jL, lL⟩
      simp only at hm1 hm hN wA jL lL
      have hA20 : A.length ≤ 1048576 := by omega
      rcases Nat.lt_or_ge m (cn + ln) with h' | h'
      · have f1 : decide ((m : Int) < (A.length : Int)) = true := decide_eq_true (by omega)
        (have fx := (@f1)
         repeat' (first | with_reducible refine go ?_ | with_reducible refine t_region fun KT hT => ?_ | (refine gp fun KK hK => ?_; first | (refine ⟨by first | exact eq_hop, ?_⟩; (first | refine hK _ _ ?_ | refine hK _ (nz ?_)); clear hK KK) | ((repeat refine And.intro (by first | omega | (rw [getD_map_lt (by omega)]; rfl) | (simp; first | done | omega)) ?_); first | (refine hK _ _ ?_; clear hK KK) | (refine hK _ ?_; clear hK KK; try simp only [upd_mk]))) | ((with_reducible first | refine o_nil (hT _ _ ?_) | refine h_nil (hT _ ?_)); clear hT KT) | ((first | refine gd fun AA BB hA hB => ?_ | refine tc fun AA BB hA hB => ?_); first | (refine go ?_; (first | refine hA ?_ | refine hB ?_); clear hA hB AA BB) | (refine go2 ?_ ?_ <;> intro hb <;> (first | refine hA ?_ | refine hB ?_) <;> clear hA hB AA BB <;> (try simp only [hb, decide_true, decide_false]) <;> (try (exfalso; first | (simp at hb; done) | (simp at hb; omega))))) | (with_reducible refine skS ?_; simp only [upd_mk]) | with_reducible refine tdr fun KT hT => ?_ | with_reducible refine bY ?_)
         all_goals clear fx)
        (refine gp fun KK hK => ?_; refine .inr (.inr (eQ [_] (l1Below_e b zb _ _ _) (fun y1 hy1 => hK _ _ ?_))); refine nze ?_; clear hK KK)
        obtain ⟨kk, hkk, ekk⟩ : ∃ kk : Nat, kk ≤ 2 ∧ IntKind.i64.wrap (1 + (y1.1 : Int)) = (kk : Int) := ⟨1 + y1.1, by omega, by rw [wr64 (by omega) (by omega)]; omega⟩
        obtain ⟨y1, i5, h5⟩ := y1
        simp only at ekk
        (have fx := (@ekk)
         repeat' (first | with_reducible refine go ?_ | with_reducible refine t_region fun KT hT => ?_ | (refine gp fun KK hK => ?_; first | (refine ⟨by first | exact eq_hop, ?_⟩; (first | refine hK _ _ ?_ | refine hK _ (nz ?_)); clear hK KK) | ((repeat refine And.intro (by first | omega | (rw [getD_map_lt (by omega)]; rfl) | (simp; first | done | omega)) ?_); first | (refine hK _ _ ?_; clear hK KK) | (refine hK _ ?_; clear hK KK; try simp only [upd_mk]))) | ((with_reducible first | refine o_nil (hT _ _ ?_) | refine h_nil (hT _ ?_)); clear hT KT) | ((first | refine gd fun AA BB hA hB => ?_ | refine tc fun AA BB hA hB => ?_); first | (refine go ?_; (first | refine hA ?_ | refine hB ?_); clear hA hB AA BB) | (refine go2 ?_ ?_ <;> intro hb <;> (first | refine hA ?_ | refine hB ?_) <;> clear hA hB AA BB <;> (try simp only [hb, decide_true, decide_false]) <;> (try (exfalso; first | (simp at hb; done) | (simp at hb; omega))))) | (with_reducible refine skS ?_; simp only [upd_mk]) | with_reducible refine tdr fun KT hT => ?_ | with_reducible refine bY ?_)
         all_goals clear fx)
        refine t_loop (fun q : Nat × List As × List Lk × Nat × Int => [(0, .ptr 900 0 0), (2, .ptr 2 0 0), (3, .ptr 3 0 0), (4, .int .i64 (cn : Int)), (8, .int .i64 (m : Int)), (9, .int .i64 (q.1 : Int))]) (fun q => [(900, curE b q.2.2.2.1 q.2.2.2.2), (198, .row (q.2.1.map asRow)), (199, .row (q.2.2.1.map lkRow)), (3, .box [.fs 198, .fs 199]), (2, .box [.nl, .nl])]) (fun q => q.1 ≤ 2 ∧ (q.2.1.length = cn + ln ∧ ∀ a ∈ q.2.1, asW a) ∧ Jt q.2.2.1 ∧ q.2.2.1.length + q.1 ≤ 8 + 3 * m) (fun q => q.1) (kk, A, L, i5, h5) (imp_keep (by simp [Keep, mk]) (by simp [KeepT, mkT]) rfl) ⟨hkk, ⟨hN, wA⟩, jL, by simp only; omega⟩ ?_
        clear hN wA jL lL hA20 f1 hkk ekk hy1
        rintro ⟨kk, A, L, i5, h5⟩ ⟨hkk, ⟨hN, wA⟩, jL, lL⟩
        simp only at hkk hN wA jL lL
        have hA20 : A.length ≤ 1048576 := by omega
        rcases Nat.eq_zero_or_pos kk with h'' | h''
        · subst h''
          have g1 : decide ((0 : Int) < ((0 : Nat) : Int)) = false := by simp
          have w1 : IntKind.i64.wrap ((m : Int) - (cn : Int)) = ((m - cn : Nat) : Int) := by rw [wr64 (by omega) (by omega)]; omega
          have w2 : IntKind.i64.wrap (((m - cn : Nat) : Int) + 1) = ((m - cn + 1 : Nat) : Int) := by rw [wr64 (by omega) (by omega)]; omega
          (have fx := And.intro (@g1) (And.intro (@w1) (@w2))
           repeat' (first | with_reducible refine go ?_ | with_reducible refine t_region fun KT hT => ?_ | (refine gp fun KK hK => ?_; first | (refine ⟨by first | exact eq_hop, ?_⟩; (first | refine hK _ _ ?_ | refine hK _ (nz ?_)); clear hK KK) | ((repeat refine And.intro (by first | omega | (rw [getD_map_lt (by omega)]; rfl) | (simp; first | done | omega)) ?_); first | (refine hK _ _ ?_; clear hK KK) | (refine hK _ ?_; clear hK KK; try simp only [upd_mk]))) | ((with_reducible first | refine o_nil (hT _ _ ?_) | refine h_nil (hT _ ?_)); clear hT KT) | ((first | refine gd fun AA BB hA hB => ?_ | refine tc fun AA BB hA hB => ?_); first | (refine go ?_; (first | refine hA ?_ | refine hB ?_); clear hA hB AA BB) | (refine go2 ?_ ?_ <;> intro hb <;> (first | refine hA ?_ | refine hB ?_) <;> clear hA hB AA BB <;> (try simp only [hb, decide_true, decide_false]) <;> (try (exfalso; first | (simp at hb; done) | (simp at hb; omega))))) | (with_reducible refine skS ?_; simp only [upd_mk]) | with_reducible refine tdr fun KT hT => ?_ | with_reducible refine bY ?_)
           all_goals clear fx)
          have w4 := wrapS (show m < 4611686018427387904 by omega)
          (refine gp fun KK hK => ?_; refine .inr (.inr (eQ [_] (l1Below_e b zb _ _ _) (fun z1 hz1 => hK _ _ ?_))); refine nze ?_; clear hK KK)
          have w3 : IntKind.i64.wrap ((cn : Int) + (z1.1 : Int)) = ((cn + z1.1 : Nat) : Int) := by rw [wr64 (by omega) (by omega)]; omega
          rcases Nat.lt_or_ge (cn + z1.1) m with q1 | q1
          · have g2 : decide (((cn + z1.1 : Nat) : Int) < (m : Int)) = true := decide_eq_true (by omega)
            have hne : ((cn + z1.1 : Nat) : Int) ≠ (m : Int) := by omega
            have j2 := Jt_add 3 hne jL
            have l2 := addL_len L ((cn + z1.1 : Nat) : Int) (m : Int) 3
            have c1 := add_e ⟨A, L⟩ ((cn + z1.1 : Nat) : Int) (m : Int) 3 hA20 (by simp only; omega)
            simp only at c1
            (have fx := And.intro (@w3) (And.intro (@w4) (@g2))
             repeat' (first | with_reducible refine go ?_ | with_reducible refine t_region fun KT hT => ?_ | (refine gp fun KK hK => ?_; first | ((first | (refine .inr (.inr (eQ [_] (l1Once_e b zb _ _ _) (fun x hx => hK _ _ ?_))); refine nze ?_) | (refine .inr (.inr (eQ [_, _, _] (c1) (fun x hx => hK _ _ ?_))); refine nze ?_)); clear hK KK) | (refine ⟨by first | exact eq_hop, ?_⟩; (first | refine hK _ _ ?_ | refine hK _ (nz ?_)); clear hK KK) | ((repeat refine And.intro (by first | omega | (rw [getD_map_lt (by omega)]; rfl) | (simp; first | done | omega)) ?_); first | (refine hK _ _ ?_; clear hK KK) | (refine hK _ ?_; clear hK KK; try simp only [upd_mk]))) | ((with_reducible first | refine o_nil (hT _ _ ?_) | refine h_nil (hT _ ?_)); clear hT KT) | ((first | refine gd fun AA BB hA hB => ?_ | refine tc fun AA BB hA hB => ?_); first | (refine go ?_; (first | refine hA ?_ | refine hB ?_); clear hA hB AA BB) | (refine go2 ?_ ?_ <;> intro hb <;> (first | refine hA ?_ | refine hB ?_) <;> clear hA hB AA BB <;> (try simp only [hb, decide_true, decide_false]) <;> (try (exfalso; first | (simp at hb; done) | (simp at hb; omega))))) | (with_reducible refine skS ?_; simp only [upd_mk]) | with_reducible refine tdr fun KT hT => ?_ | with_reducible refine bY ?_)
             all_goals clear fx)
            · rename_i xo po
              refine k_rnd (m + 1, A, addL L ((cn + z1.1 : Nat) : Int) (m : Int) 3, xo.2.1, xo.2.2) (imp_keep ?_ ?_ rfl) ⟨⟨by simp only; omega, h'⟩, ⟨hN, wA⟩, j2, by simp only; omega⟩ (by simp only; omega)
              · simp [Keep, mk]
              · simp [KeepT, mkT]
            · refine k_rnd (m + 1, A, L, x.2.1, x.2.2) (imp_keep ?_ ?_ rfl) ⟨⟨by simp only; omega, h'⟩, ⟨hN, wA⟩, jL, by simp only; omega⟩ (by simp only; omega)
              · simp [Keep, mk]
              · simp [KeepT, mkT]
          · have g2 : decide (((cn + z1.1 : Nat) : Int) < (m : Int)) = false := decide_eq_false (by omega)
            (have fx := And.intro (@w3) (And.intro (@w4) (@g2))
             repeat' (first | with_reducible refine go ?_ | with_reducible refine t_region fun KT hT => ?_ | (refine gp fun KK hK => ?_; first | (refine ⟨by first | exact eq_hop, ?_⟩; (first | refine hK _ _ ?_ | refine hK _ (nz ?_)); clear hK KK) | ((repeat refine And.intro (by first | omega | (rw [getD_map_lt (by omega)]; rfl) | (simp; first | done | omega)) ?_); first | (refine hK _ _ ?_; clear hK KK) | (refine hK _ ?_; clear hK KK; try simp only [upd_mk]))) | ((with_reducible first | refine o_nil (hT _ _ ?_) | refine h_nil (hT _ ?_)); clear hT KT) | ((first | refine gd fun AA BB hA hB => ?_ | refine tc fun AA BB hA hB => ?_); first | (refine go ?_; (first | refine hA ?_ | refine hB ?_); clear hA hB AA BB) | (refine go2 ?_ ?_ <;> intro hb <;> (first | refine hA ?_ | refine hB ?_) <;> clear hA hB AA BB <;> (try simp only [hb, decide_true, decide_false]) <;> (try (exfalso; first | (simp at hb; done) | (simp at hb; omega))))) | (with_reducible refine skS ?_; simp only [upd_mk]) | with_reducible refine tdr fun KT hT => ?_ | with_reducible refine bY ?_)
             all_goals clear fx)
            refine k_rnd (m + 1, A, L, z1.2.1, z1.2.2) (imp_keep ?_ ?_ rfl) ⟨⟨by simp only; omega, h'⟩, ⟨hN, wA⟩, jL, by simp only; omega⟩ (by simp only; omega)
            · simp [Keep, mk]
            · simp [KeepT, mkT]
        · have g1 : decide ((0 : Int) < (kk : Int)) = true := decide_eq_true (by omega)
          (have fx := (@g1)
           repeat' (first | with_reducible refine go ?_ | with_reducible refine t_region fun KT hT => ?_ | (refine gp fun KK hK => ?_; first | (refine ⟨by first | exact eq_hop, ?_⟩; (first | refine hK _ _ ?_ | refine hK _ (nz ?_)); clear hK KK) | ((repeat refine And.intro (by first | omega | (rw [getD_map_lt (by omega)]; rfl) | (simp; first | done | omega)) ?_); first | (refine hK _ _ ?_; clear hK KK) | (refine hK _ ?_; clear hK KK; try simp only [upd_mk]))) | ((with_reducible first | refine o_nil (hT _ _ ?_) | refine h_nil (hT _ ?_)); clear hT KT) | ((first | refine gd fun AA BB hA hB => ?_ | refine tc fun AA BB hA hB => ?_); first | (refine go ?_; (first | refine hA ?_ | refine hB ?_); clear hA hB AA BB) | (refine go2 ?_ ?_ <;> intro hb <;> (first | refine hA ?_ | refine hB ?_) <;> clear hA hB AA BB <;> (try simp only [hb, decide_true, decide_false]) <;> (try (exfalso; first | (simp at hb; done) | (simp at hb; omega))))) | (with_reducible refine skS ?_; simp only [upd_mk]) | with_reducible refine tdr fun KT hT => ?_ | with_reducible refine bY ?_)
           all_goals clear fx)
          (refine gp fun KK hK => ?_; refine .inr (.inr (eQ [_] (l1Below_e b zb _ _ _) (fun y2 hy2 => hK _ _ ?_))); refine nze ?_; clear hK KK)
          have hy2' : y2.1 < m := by omega
          have hyA : y2.1 < A.length := by omega
          have hmA : m < A.length := by omega
          have g2 := getD_map_lt (f := asRow) hyA
          have g3 := getD_map_lt (f := asRow) hmA
          have hyne : m ≠ y2.1 := by omega
          have g6 : A.set m ⟨A[y2.1].isd, A[m].core, A[m].key⟩ = A.set m ⟨A[y2.1].isd, A[m].core, A[m].key⟩ := rfl
          have wA' : ∀ a ∈ A.set m ⟨A[y2.1].isd, A[m].core, A[m].key⟩, asW a := set_asW wA ⟨(wA _ (List.getElem_mem hyA)).1, (wA _ (List.getElem_mem hmA)).2⟩
          have hN' : (A.set m ⟨A[y2.1].isd, A[m].core, A[m].key⟩).length = A.length := List.length_set
          have hs2 : (A.map asRow).set m [.int .i64 A[y2.1].isd, .bool A[m].core, .int .i64 A[m].key] = (A.set m ⟨A[y2.1].isd, A[m].core, A[m].key⟩).map asRow := (List.map_set (f := asRow) (a := ⟨A[y2.1].isd, A[m].core, A[m].key⟩)).symm
          have hs1 : (A.map asRow).set m (List.set [.int .i64 A[m].isd, .bool A[m].core, .int .i64 A[m].key] 0 (.int .i64 A[y2.1].isd)) = (A.set m ⟨A[y2.1].isd, A[m].core, A[m].key⟩).map asRow := hs2
          have g4 : ((A.set m ⟨A[y2.1].isd, A[m].core, A[m].key⟩).map asRow).getD y2.1 [] = asRow A[y2.1] := by
            rw [getD_map_lt (by rw [hN']; exact hyA), List.getElem_set_ne hyne]
          have g5 : ((A.set m ⟨A[y2.1].isd, A[m].core, A[m].key⟩).map asRow).getD m [] = asRow ⟨A[y2.1].isd, A[m].core, A[m].key⟩ := by
            rw [getD_map_lt (by rw [hN']; exact hmA), List.getElem_set_self]
          clear g6
          generalize hB : A.set m ⟨A[y2.1].isd, A[m].core, A[m].key⟩ = B at *
          have hB20 : B.length ≤ 1048576 := by omega
          have hBy : y2.1 < B.length := by omega
          have hBm : m < B.length := by omega
          have hne : (y2.1 : Int) ≠ (m : Int) := by omega
          have j2 := Jt_add 2 hne jL
          have l2 := addL_len L (y2.1 : Int) (m : Int) 2
          have c1 := add_e ⟨A, L⟩ (y2.1 : Int) (m : Int) 2 hA20 (by simp only; omega)
          have c2 := add_e ⟨B, L⟩ (y2.1 : Int) (m : Int) 2 hB20 (by simp only; omega)
          simp only at c1 c2
          simp only [asRow] at g2 g3 g4 g5
          have wk : IntKind.i64.wrap ((kk : Int) - 1) = ((kk - 1 : Nat) : Int) := wrapP h'' (by omega)
          generalize A[y2.1].isd = s1 at *
          generalize A[y2.1].core = s2 at *
          generalize A[y2.1].key = s3 at *
          generalize A[m].isd = s4 at *
          generalize A[m].core = s5 at *
          generalize A[m].key = s6 at *
          (have fx := And.intro (@g2) (And.intro (@g3) (And.intro (@g4) (And.intro (@g5) (And.intro (@hs1) (And.intro (@hs2) (And.intro (@hyA) (And.intro (@hmA) (And.intro (@hBy) (And.intro (@hBm) (And.intro (@beqI_self) (@wk)))))))))))
           repeat' (first | with_reducible refine go ?_ | with_reducible refine t_region fun KT hT => ?_ | (refine gp fun KK hK => ?_; first | ((first | (refine .inr (.inr (eQ [_] (l1Once_e b zb _ _ _) (fun x hx => hK _ _ ?_))); refine nze ?_) | (refine .inr (.inr (eQ [_, _, _] (c1) (fun x hx => hK _ _ ?_))); refine nze ?_) | (refine .inr (.inr (eQ [_, _, _] (c2) (fun x hx => hK _ _ ?_))); refine nze ?_)); clear hK KK) | (refine ⟨by first | exact eq_hop, ?_⟩; (first | refine hK _ _ ?_ | refine hK _ (nz ?_)); clear hK KK) | ((repeat refine And.intro (by first | omega | (rw [getD_map_lt (by omega)]; rfl) | (simp; first | done | omega)) ?_); first | (refine hK _ _ ?_; clear hK KK) | (refine hK _ ?_; clear hK KK; try simp only [upd_mk]))) | ((with_reducible first | refine o_nil (hT _ _ ?_) | refine h_nil (hT _ ?_)); clear hT KT) | (with_reducible first | refine ht_nil ?_ | refine dq_succ ?_ | refine dq_f ?_ | refine dq_t ?_) | ((first | refine gd fun AA BB hA hB => ?_ | refine tc fun AA BB hA hB => ?_); first | (refine go ?_; (first | refine hA ?_ | refine hB ?_); clear hA hB AA BB) | (refine go2 ?_ ?_ <;> intro hb <;> (first | refine hA ?_ | refine hB ?_) <;> clear hA hB AA BB <;> (try simp only [hb, decide_true, decide_false]) <;> (try (exfalso; first | (simp at hb; done) | (simp at hb; omega))))) | (with_reducible refine skS ?_; simp only [upd_mk]) | (refine tdT (id := 22) 9 fun KT hT => ?_) | with_reducible refine tdr fun KT hT => ?_ | with_reducible refine bY ?_)
           all_goals clear fx)
          · rename_i xo po
            refine k_rnd (kk - 1, B, addL L (y2.1 : Int) (m : Int) 2, xo.2.1, xo.2.2) (imp_keep ?_ ?_ rfl) ⟨by simp only; omega, ⟨by simp only; omega, wA'⟩, j2, by simp only; omega⟩ (by simp only; omega)
            · simp [Keep, mk]
            · simp [KeepT, mkT]
          · rename_i xo po qo
            refine k_rnd (kk - 1, A, addL L (y2.1 : Int) (m : Int) 2, xo.2.1, xo.2.2) (imp_keep ?_ ?_ rfl) ⟨by simp only; omega, ⟨hN, wA⟩, j2, by simp only; omega⟩ (by simp only; omega)
            · simp [Keep, mk]
            · simp [KeepT, mkT]
          · refine k_rnd (kk - 1, A, L, x.2.1, x.2.2) (imp_keep ?_ ?_ rfl) ⟨by simp only; omega, ⟨hN, wA⟩, jL, by simp only; omega⟩ (by simp only; omega)
            · simp [Keep, mk]
            · simp [KeepT, mkT]
      · obtain rfl : m = cn + ln := by omega
        have f1 : decide (((cn + ln : Nat) : Int) < (A.length : Int)) = false := decide_eq_false (by omega)
        have hL64 : L.length ≤ 64 := by omega
        clear lL
        (have fx := (@f1)
         repeat' (first | with_reducible refine go ?_ | with_reducible refine t_region fun KT hT => ?_ | (refine gp fun KK hK => ?_; first | (refine ⟨by first | exact eq_hop, ?_⟩; (first | refine hK _ _ ?_ | refine hK _ (nz ?_)); clear hK KK) | ((repeat refine And.intro (by first | omega | (rw [getD_map_lt (by omega)]; rfl) | (simp; first | done | omega)) ?_); first | (refine hK _ _ ?_; clear hK KK) | (refine hK _ ?_; clear hK KK; try simp only [upd_mk]))) | ((with_reducible first | refine o_nil (hT _ _ ?_) | refine h_nil (hT _ ?_)); clear hT KT) | ((first | refine gd fun AA BB hA hB => ?_ | refine tc fun AA BB hA hB => ?_); first | (refine go ?_; (first | refine hA ?_ | refine hB ?_); clear hA hB AA BB) | (refine go2 ?_ ?_ <;> intro hb <;> (first | refine hA ?_ | refine hB ?_) <;> clear hA hB AA BB <;> (try simp only [hb, decide_true, decide_false]) <;> (try (exfalso; first | (simp at hb; done) | (simp at hb; omega))))) | (with_reducible refine skS ?_; simp only [upd_mk]) | with_reducible refine tdr fun KT hT => ?_ | with_reducible refine bY ?_)
         all_goals clear fx)
        refine t_loop (fun k : Nat => [(2, .ptr 2 0 0), (3, .ptr 3 0 0), (12, .fs 197), (13, .int .i64 (k : Int))]) (fun k => [(900, curE b i4 h4), (198, .row (A.map asRow)), (199, .row (L.map lkRow)), (3, .box [.fs 198, .fs 199]), (2, .box [.nl, .nl]), (197, .row (((L.take k).filter (lkOk ⟨A, L⟩)).map lkRow))]) (fun k => k ≤ L.length) (fun k => L.length - k) 0 (imp_move 12 127 197 rfl rfl rfl (imp_keep (by simp [Keep, mk, scrP, scr]) (by simp [KeepT, mkT, del, scrT, Ent.scr, scrL, scr]) rfl)) (Nat.zero_le _) ?_
        intro k hk
        have hfl : ((L.take k).filter (lkOk ⟨A, L⟩)).length ≤ k := by
          have := List.length_filter_le (lkOk ⟨A, L⟩) (L.take k)
          rw [List.length_take] at this
          omega
        rcases Nat.lt_or_ge k L.length with h'' | h''
        · have g1 : decide ((k : Int) < (L.length : Int)) = true := decide_eq_true (by omega)
          have g2 := getD_map_lt (f := lkRow) h''
          have c1 := lkOk_s ⟨A, L⟩ L[k] hA20
          have st : (L.take (k + 1)).filter (lkOk ⟨A, L⟩) = (L.take k).filter (lkOk ⟨A, L⟩) ++ (if lkOk ⟨A, L⟩ L[k] = true then [L[k]] else []) := by
            rw [List.take_succ_eq_append_getElem h'', List.filter_append]
            congr 1
            simp only [List.filter_cons, List.filter_nil]
          rcases Bool.eq_false_or_eq_true (lkOk ⟨A, L⟩ L[k]) with q | q
          · rw [q] at c1
            rw [q, if_pos rfl] at st
            (have fx := And.intro (@g1) (And.intro (@g2) (And.intro (@h'') (@rowLen_links)))
             repeat' (first | with_reducible refine go ?_ | with_reducible refine t_region fun KT hT => ?_ | (refine gp fun KK hK => ?_; first | ((with_reducible first | refine .inl ⟨_, _, ⟨c1, rfl, csq⟩, hK _ _ (nz ?_)⟩ | refine ⟨_, ⟨c1, rfl, rfl, csq⟩, hK _ (nz ?_)⟩); clear hK KK) | (refine ⟨by first | exact eq_hop, ?_⟩; (first | refine hK _ _ ?_ | refine hK _ (nz ?_)); clear hK KK) | ((repeat refine And.intro (by first | omega | (rw [getD_map_lt (by omega)]; rfl) | (simp; first | done | omega)) ?_); first | (refine hK _ _ ?_; clear hK KK) | (refine hK _ ?_; clear hK KK; try simp only [upd_mk]))) | ((with_reducible first | refine o_nil (hT _ _ ?_) | refine h_nil (hT _ ?_)); clear hT KT) | ((first | refine gd fun AA BB hA hB => ?_ | refine tc fun AA BB hA hB => ?_); first | (refine go ?_; (first | refine hA ?_ | refine hB ?_); clear hA hB AA BB) | (refine go2 ?_ ?_ <;> intro hb <;> (first | refine hA ?_ | refine hB ?_) <;> clear hA hB AA BB <;> (try simp only [hb, decide_true, decide_false]) <;> (try (exfalso; first | (simp at hb; done) | (simp at hb; omega))))) | (with_reducible refine skS ?_; simp only [upd_mk]) | with_reducible refine tdr fun KT hT => ?_ | with_reducible refine bY ?_)
             all_goals clear fx)
            refine k_rnd (k + 1) (imp_drop 148 (imp_keep ?_ ?_ rfl)) h'' (by omega)
            · simp [Keep, mk, scrP, scr, wrapS (show k < 4611686018427387904 by omega)]
            · simp [KeepT, mkT, del, scrT, Ent.scr, scrL, scr, st]
          · rw [q] at c1
            rw [q, if_neg (by simp), List.append_nil] at st
            (have fx := And.intro (@g1) (And.intro (@g2) (And.intro (@h'') (@rowLen_links)))
             repeat' (first | with_reducible refine go ?_ | with_reducible refine t_region fun KT hT => ?_ | (refine gp fun KK hK => ?_; first | ((with_reducible first | refine .inl ⟨_, _, ⟨c1, rfl, csq⟩, hK _ _ (nz ?_)⟩ | refine ⟨_, ⟨c1, rfl, rfl, csq⟩, hK _ (nz ?_)⟩); clear hK KK) | (refine ⟨by first | exact eq_hop, ?_⟩; (first | refine hK _ _ ?_ | refine hK _ (nz ?_)); clear hK KK) | ((repeat refine And.intro (by first | omega | (rw [getD_map_lt (by omega)]; rfl) | (simp; first | done | omega)) ?_); first | (refine hK _ _ ?_; clear hK KK) | (refine hK _ ?_; clear hK KK; try simp only [upd_mk]))) | ((with_reducible first | refine o_nil (hT _ _ ?_) | refine h_nil (hT _ ?_)); clear hT KT) | ((first | refine gd fun AA BB hA hB => ?_ | refine tc fun AA BB hA hB => ?_); first | (refine go ?_; (first | refine hA ?_ | refine hB ?_); clear hA hB AA BB) | (refine go2 ?_ ?_ <;> intro hb <;> (first | refine hA ?_ | refine hB ?_) <;> clear hA hB AA BB <;> (try simp only [hb, decide_true, decide_false]) <;> (try (exfalso; first | (simp at hb; done) | (simp at hb; omega))))) | (with_reducible refine skS ?_; simp only [upd_mk]) | with_reducible refine tdr fun KT hT => ?_ | with_reducible refine bY ?_)
             all_goals clear fx)
            refine k_rnd (k + 1) (imp_keep ?_ ?_ rfl) h'' (by omega)
            · simp [Keep, mk, wrapS (show k < 4611686018427387904 by omega)]
            · simp [KeepT, mkT, st]
        · obtain rfl : k = L.length := by omega
          have g1 : decide ((L.length : Int) < (L.length : Int)) = false := by simp
          (have fx := And.intro (@g1) (@takeL_all)
           repeat' (first | with_reducible refine go ?_ | with_reducible refine t_region fun KT hT => ?_ | (refine gp fun KK hK => ?_; first | (refine ⟨by first | exact eq_hop, ?_⟩; (first | refine hK _ _ ?_ | refine hK _ (nz ?_)); clear hK KK) | ((repeat refine And.intro (by first | omega | (rw [getD_map_lt (by omega)]; rfl) | (simp; first | done | omega)) ?_); first | (refine hK _ _ ?_; clear hK KK) | (refine hK _ ?_; clear hK KK; try simp only [upd_mk]))) | ((with_reducible first | refine o_nil (hT _ _ ?_) | refine h_nil (hT _ ?_)); clear hT KT) | ((first | refine gd fun AA BB hA hB => ?_ | refine tc fun AA BB hA hB => ?_); first | (refine go ?_; (first | refine hA ?_ | refine hB ?_); clear hA hB AA BB) | (refine go2 ?_ ?_ <;> intro hb <;> (first | refine hA ?_ | refine hB ?_) <;> clear hA hB AA BB <;> (try simp only [hb, decide_true, decide_false]) <;> (try (exfalso; first | (simp at hb; done) | (simp at hb; omega))))) | (with_reducible refine skS ?_; simp only [upd_mk]) | with_reducible refine tdr fun KT hT => ?_ | with_reducible refine bY ?_)
           all_goals clear fx)
          refine fin_e ((⟨A, L.filter (lkOk ⟨A, L⟩)⟩, i4, h4)) [900, 198, 197] (Imp.refl _ _ _) ?_ (by simp only [resQ, packD, frzP, frzT, frz, frzL, Ent.frz, bk, bkL, bkE, bkEs, callQ, viewL, view, noFsL, noFs, intsOf, Option.map_some, stp, hv, qv, ev, cD, scr, scrL, Ent.scr, flat, one, binQ, ldQ, storeQ, lay, Nat.reduceLT, Nat.reduceLeDiff, Nat.reduceAdd, Nat.reduceEqDiff, Nat.reduceMul, Nat.reduceSub, reduceIte, reduceCtorEq, fillQ, bne_iff_ne, Nat.reduceBNe, Nat.reduceBEq, rowsOf, cloL, clo, exists_eq_left', exists_and_left, appendQ, partsQ, Int.cast_ofNat_Int, Int.reduceBEq, Int.reduceBNe, Int.reduceLT, Int.reduceLE, Int.reduceEq, Int.reduceNe, Int.reduceAdd, Int.reduceSub, Int.reduceNeg, Int.reduceToNat, decide_true, decide_false, ne_eq, not_false_eq_true, true_and, and_true, Nat.add_zero, Nat.zero_add, Nat.not_lt_zero, Bool.not_true, Bool.not_false, Int.le_refl, bA, bB, bT, gx]; first | done | trivial | exact ⟨rfl, rfl⟩)
          refine ⟨by simp only; omega, by simp only; omega, Nat.le_trans (List.length_filter_le _ _) hL64, ?_, jL.nd.sublist (endsL_filter _ _), wA⟩
          intro l hl
          exact (List.mem_filter.1 hl).2

theorem l1BelowF_e (b : List UInt8) (zb : b.length ≤ 1048576) (i : Nat) (h : Int) (N : Nat) (hN : 0 < N) : ECall Tryz.prog 26 [.ptr 0 0 0, .int .i64 (N : Int)] [curE b i h] 1 (fun _ : _root_.Fin N × Nat × Int => True) (fun x => .int .i64 (x.1.val : Int)) (fun x => [curE b x.2.1 x.2.2]) := by
  refine ecall_imp (l1Below_e b zb i h (N : Int)) ?_
  rintro ⟨x, i', h'⟩ hx
  simp only at hx
  exact ⟨(⟨x, by omega⟩, i', h'), trivial, rfl, rfl⟩

end Go.Proofs.YtmiclkgkfkcnoaaGreat
