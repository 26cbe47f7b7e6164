/- The functions of this program, walked by the evaluator: part zg, 2. -/
import Derived.Test.YtmiclkgkfkcnoaaLzg1
namespace Go.Proofs.Ytmiclkgkfkcnoaa
open Go.RowKit
set_option linter.unusedSimpArgs false
set_option linter.unusedVariables false
set_option maxRecDepth 100000
set_option linter.defProp false
namespace GLzg2
def gx := And.intro (@hopRow.eq_1) (And.intro (@polRow.eq_1) (And.intro (@segRow.eq_1) (And.intro (@intRow.eq_1) (And.intro (@rowLen_ints) (And.intro (@rowLen_nil) (And.intro (@rowLen_cons) (And.intro (@rowLen_append) (And.intro (@lenL_app) (And.intro (@byteRow.eq_1) (And.intro (@rowLen_bytes) (And.intro (@bytesOf_map) (And.intro (@bytesOf_cons) (And.intro (@bytesOf_one) (And.intro (@rowLen_strs) (And.intro (@asRow.eq_1) (And.intro (@lkRow.eq_1) (And.intro (@tpRow.eq_1) (And.intro (@rowLen_hops) (And.intro (@rowLen_ases) (And.intro (@rowLen_links) (And.intro (@bcRow.eq_1) (And.intro (@rowLen_bcs) (@u8Row.eq_1)))))))))))))))))))))))
end GLzg2
open GLzg2
set_option maxHeartbeats 4000000 in
theorem rdSeg_s (b : List UInt8) (i : Int) (hb : b.length ≤ 1073741824) (s : Sg) (z : Nat) (hs : rdSeg b i = some (s, z)) : ACall Try.prog 69 [.sl (b.map byteRow), .int .i64 i] (.tup [.agg [.int .i64 s.ts, .int .i64 s.beta, .fs 0], .int .i64 z, .bool true]) [s.hops.map hopRow] := by
  have c := decI_s b i 3 hb (by omega)
  unfold rdSeg at hs
  cases hd : decI b i 3 with
  | none =>
    rw [hd] at c hs
    simp only [decD] at c
    simp only at hs
    cases hs
  | some p =>
    obtain ⟨l, e⟩ := p
    obtain ⟨hl, hnn⟩ := decI_some hd
    match l, hl with
    | [ts, be, n], _ =>
      rw [hd] at c hs
      simp only [decD, List.map_cons, List.map_nil] at c
      simp only at hs
      have c' : ACall Try.prog 158 [.sl (b.map byteRow), .int .i64 i, .int .i64 3] (.tup [.sl [intRow ts, intRow be, intRow n], .int .i64 e, .bool true]) [] := c
      obtain ⟨m, rfl⟩ : ∃ m : Nat, n = (m : Int) := ⟨n.toNat, by have := hnn n (by simp); omega⟩
      simp only [Int.toNat_natCast] at hs
      clear c hd hnn
      rcases Nat.lt_or_ge 8 m with h8 | h8
      · rw [if_neg (by omega)] at hs
        have g0 : decide ((8 : Int) < (m : Int)) = true := decide_eq_true (by omega)
        cases hs
      · rw [if_pos (by omega)] at hs
        have g0 : decide ((8 : Int) < (m : Int)) = false := decide_eq_false (by omega)
        refine acall_mk Try.func69 rfl Try.ntmps69 Try.results69 (by kernel_rfl) (by simp) ?_
        simp only [args, Nat.zero_add, Nat.reduceAdd]
        (have fx := (@g0)
         repeat' (first | with_reducible refine go ?_ | with_reducible refine t_region fun KT hT => ?_ | (refine kd 0 ?_; refine g_nil ?_; simp only [realS_mk, realM_mk, pvS, pv, List.nil_append, List.cons_append]; try (refine hT _ _ ?_; clear hT KT)) | (refine kd 1 ?_; refine g_alloc (by first | exact congrArg TI.zero ti3 | exact congrArg TI.zero ti29 | exact congrArg TI.zero ti31 | exact congrArg TI.zero ti72 | exact congrArg TI.zero ti107) (by simp) (by rfl) (by rfl) (by simp) (by decide) rfl rfl rfl ?_) | (refine kd 2 ?_; refine g_store rfl rfl (by simp) (by decide) fun KK hK => ?_; simp only [pv, stp, hv, qv, ev, cD, scr, scrL, Ent.scr, flat, one, binQ, ldQ, storeQ, lay, Nat.reduceLT, Nat.reduceLeDiff, Nat.reduceAdd, Nat.reduceEqDiff, Nat.reduceMul, Nat.reduceSub, reduceIte, reduceCtorEq, fillQ, bne_iff_ne, Nat.reduceBNe, Nat.reduceBEq, rowsOf, cloL, clo, exists_eq_left', exists_and_left, appendQ, partsQ, Int.cast_ofNat_Int, Int.reduceBEq, Int.reduceBNe, Int.reduceLT, Int.reduceLE, Int.reduceEq, Int.reduceNe, Int.reduceAdd, Int.reduceSub, Int.reduceNeg, Int.reduceToNat, decide_true, decide_false, ne_eq, not_false_eq_true, true_and, and_true, Nat.add_zero, Nat.zero_add, Nat.not_lt_zero, Bool.not_true, Bool.not_false, Int.le_refl, bA, bB, callQ, viewL, view, noFsL, noFs, intsOf, Option.map_some, bT, gx, fx]; refine hK _ ?_; clear hK KK; try simp only [del_cons, del_nil, upd_mk, Nat.reduceEqDiff, reduceIte]) | (refine kd 3 ?_; (first | refine g_bcall rfl (by decide) rfl (by first | exact c' | (simp only [stp, hv, qv, ev, cD, scr, scrL, Ent.scr, flat, one, binQ, ldQ, storeQ, lay, Nat.reduceLT, Nat.reduceLeDiff, Nat.reduceAdd, Nat.reduceEqDiff, Nat.reduceMul, Nat.reduceSub, reduceIte, reduceCtorEq, fillQ, bne_iff_ne, Nat.reduceBNe, Nat.reduceBEq, rowsOf, cloL, clo, exists_eq_left', exists_and_left, appendQ, partsQ, Int.cast_ofNat_Int, Int.reduceBEq, Int.reduceBNe, Int.reduceLT, Int.reduceLE, Int.reduceEq, Int.reduceNe, Int.reduceAdd, Int.reduceSub, Int.reduceNeg, Int.reduceToNat, decide_true, decide_false, ne_eq, not_false_eq_true, true_and, and_true, Nat.add_zero, Nat.zero_add, Nat.not_lt_zero, Bool.not_true, Bool.not_false, Int.le_refl, bA, bB, callQ, viewL, view, noFsL, noFs, intsOf, Option.map_some, bT, gx, fx]; exact c')) (by rfl) csq (by intro d hd; (repeat (rcases List.mem_cons.1 hd with rfl | hd; · exact ⟨⟨rfl, rfl⟩, rfl, rfl⟩)); cases hd) (by first | exact yA_nil | (intro i e hi; simp only [mkT] at hi; (repeat' split at hi) <;> simp_all)) ?_); simp only [addS, addM, ren, renL, rid, scr, scrL, Ent.scr, Nat.reduceMul, Nat.reduceAdd, Nat.reduceEqDiff, reduceIte, bA]) | (refine gp fun KK hK => ?_; first | (refine hK _ _ ?_; clear hK KK) | (refine hK _ ?_; clear hK KK; try simp only [upd_mk]) | ((with_reducible first | refine .inl ⟨_, _, ⟨c', rfl, csq⟩, hK _ _ (nz ?_)⟩ | refine ⟨_, ⟨c', rfl, rfl, csq⟩, hK _ (nz ?_)⟩); clear hK KK) | (refine ⟨by first | exact eq_hop, hK _ _ ?_⟩; clear hK KK) | (refine ⟨by first | exact eq_hop, hK _ (nz ?_)⟩; clear hK KK) | ((repeat refine And.intro (by first | omega | (rw [getD_map_lt (by omega)]; rfl) | (simp; first | done | omega)) ?_); first | (refine hK _ _ ?_; clear hK KK) | (refine hK _ ?_; clear hK KK; try simp only [upd_mk]))) | ((with_reducible first | refine o_nil (hT _ _ ?_) | refine h_nil (hT _ ?_)); clear hT KT) | ((first | refine gd fun AA BB hA hB => ?_ | refine tc fun AA BB hA hB => ?_); first | (refine go ?_; (first | refine hA ?_ | refine hB ?_); clear hA hB AA BB) | (refine go2 ?_ ?_ <;> intro hb <;> (first | refine hA ?_ | refine hB ?_) <;> clear hA hB AA BB <;> (try simp only [hb, decide_true, decide_false]) <;> (try (exfalso; first | (simp at hb; done) | (simp at hb; omega))))) | (with_reducible refine skS ?_; simp only [upd_mk]) | (refine t_drawG (id := 4) [] [10] (by kernel_rfl) (by decide) (by kernel_rfl) fun KT hT => ?_) | with_reducible refine tdr fun KT hT => ?_ | with_reducible refine bY ?_)
         all_goals clear fx)
        refine t_loop (fun q : Nat × Nat × List Hp => [(0, .sl (b.map byteRow)), (4, .ptr 4 0 0), (7, .sl [intRow ts, intRow be, intRow m]), (8, .int .i64 (q.2.1 : Int)), (10, .ptr 10 0 0), (11, .int .i64 (q.1 : Int))]) (fun q => [(10, .box [.int .i64 ts, .int .i64 be, .fs 99]), (99, .row (q.2.2.map hopRow)), (4, .box [.int .i64 0, .int .i64 0, .nl])]) (fun q => q.1 ≤ m ∧ q.2.2.length = q.1 ∧ rdHops b e m = (rdHops b q.2.1 (m - q.1)).map fun r => (q.2.2 ++ r.1, r.2)) (fun q => m - q.1) (0, e, []) (imp_nilB 10 2 99 rfl rfl rfl (imp_keep (by simp [Keep, mk]) (by simp [KeepT, mkT]) rfl)) ⟨by simp, rfl, by simp⟩ ?_
        rintro ⟨k, z1, acc⟩ ⟨hk, hl, hr⟩
        simp only at hk hl hr
        rcases Nat.lt_or_ge k m with h | h
        · have e1 : decide ((k : Int) < (m : Int)) = true := decide_eq_true (by omega)
          rw [show m - k = (m - (k + 1)) + 1 by omega, rdHops] at hr
          have cc := rdHop_s b (z1 : Int) hb
          cases hv : rdHop b (z1 : Int) with
          | none =>
            rw [hv] at cc hr
            simp only [rdHopD] at cc
            simp only [Option.map_none] at hr
            rw [hr] at hs
            cases hs
          | some p =>
            obtain ⟨v, w⟩ := p
            rw [hv] at cc hr
            simp only [rdHopD] at cc
            simp only at hr
            have wk := wrapS (show k < 4611686018427387904 by omega)
            have ha := hop_rows_app acc v
            simp only [hopRow] at ha
            (have fx := And.intro (@e1) (And.intro (@hl) (And.intro (@wk) (@ha)))
             repeat' (first | with_reducible refine go ?_ | with_reducible refine t_region fun KT hT => ?_ | (refine gp fun KK hK => ?_; first | (refine hK _ _ ?_; clear hK KK) | (refine hK _ ?_; clear hK KK; try simp only [upd_mk]) | ((with_reducible first | refine .inl ⟨_, _, ⟨cc, rfl, csq⟩, hK _ _ (nz ?_)⟩ | refine ⟨_, ⟨cc, rfl, rfl, csq⟩, hK _ (nz ?_)⟩); clear hK KK) | (refine ⟨by first | exact eq_hop, hK _ _ ?_⟩; clear hK KK) | (refine ⟨by first | exact eq_hop, hK _ (nz ?_)⟩; clear hK KK) | ((repeat refine And.intro (by first | omega | (rw [getD_map_lt (by omega)]; rfl) | (simp; first | done | omega)) ?_); first | (refine hK _ _ ?_; clear hK KK) | (refine hK _ ?_; clear hK KK; try simp only [upd_mk]))) | ((with_reducible first | refine o_nil (hT _ _ ?_) | refine h_nil (hT _ ?_)); clear hT KT) | ((first | refine gd fun AA BB hA hB => ?_ | refine tc fun AA BB hA hB => ?_); first | (refine go ?_; (first | refine hA ?_ | refine hB ?_); clear hA hB AA BB) | (refine go2 ?_ ?_ <;> intro hb <;> (first | refine hA ?_ | refine hB ?_) <;> clear hA hB AA BB <;> (try simp only [hb, decide_true, decide_false]) <;> (try (exfalso; first | (simp at hb; done) | (simp at hb; omega))))) | (with_reducible refine skS ?_; simp only [upd_mk]) | with_reducible refine tdr fun KT hT => ?_ | with_reducible refine bY ?_)
             all_goals clear fx)
            refine k_rnd (k + 1, w, acc ++ [v]) (imp_drop 12 (imp_drop 58 (imp_keep ?_ ?_ rfl))) ⟨h, by simp [hl], ?_⟩ (by simp only; omega)
            · simp [Keep, mk, scrP, scr]
            · simp [KeepT, mkT, del, scrT, Ent.scr, scrL, scr]
            · rw [hr, Option.map_map]
              congr 1
              funext r
              simp
        · obtain rfl : k = m := by omega
          have e1 : decide ((k : Int) < (k : Int)) = false := by simp
          rw [Nat.sub_self, rdHops] at hr
          simp only [Option.map_some, List.append_nil] at hr
          rw [hr] at hs
          simp only at hs
          have ce := enc_s ⟨ts, be, acc⟩ (by simp only; omega)
          simp only [segRow] at ce
          rcases Bool.eq_false_or_eq_true (encodable ⟨ts, be, acc⟩) with q1 | q1
          · rw [if_pos q1] at hs
            rw [q1] at ce
            simp only [Option.some.injEq, Prod.mk.injEq] at hs
            obtain ⟨rfl, rfl⟩ := hs
            (have fx := (@e1)
             repeat' (first | with_reducible refine go ?_ | with_reducible refine t_region fun KT hT => ?_ | (refine gp fun KK hK => ?_; first | (refine hK _ _ ?_; clear hK KK) | (refine hK _ ?_; clear hK KK; try simp only [upd_mk]) | ((with_reducible first | refine .inl ⟨_, _, ⟨ce, rfl, csq⟩, hK _ _ (nz ?_)⟩ | refine ⟨_, ⟨ce, rfl, rfl, csq⟩, hK _ (nz ?_)⟩); clear hK KK) | (refine ⟨by first | exact eq_hop, hK _ _ ?_⟩; clear hK KK) | (refine ⟨by first | exact eq_hop, hK _ (nz ?_)⟩; clear hK KK) | ((repeat refine And.intro (by first | omega | (rw [getD_map_lt (by omega)]; rfl) | (simp; first | done | omega)) ?_); first | (refine hK _ _ ?_; clear hK KK) | (refine hK _ ?_; clear hK KK; try simp only [upd_mk]))) | ((with_reducible first | refine o_nil (hT _ _ ?_) | refine h_nil (hT _ ?_)); clear hT KT) | ((first | refine gd fun AA BB hA hB => ?_ | refine tc fun AA BB hA hB => ?_); first | (refine go ?_; (first | refine hA ?_ | refine hB ?_); clear hA hB AA BB) | (refine go2 ?_ ?_ <;> intro hb <;> (first | refine hA ?_ | refine hB ?_) <;> clear hA hB AA BB <;> (try simp only [hb, decide_true, decide_false]) <;> (try (exfalso; first | (simp at hb; done) | (simp at hb; omega))))) | (with_reducible refine skS ?_; simp only [upd_mk]) | with_reducible refine tdr fun KT hT => ?_ | with_reducible refine bY ?_)
             all_goals clear fx)
            (refine fo [99] ?_; try exact trivial)
            exact ⟨rfl, rfl, by simp⟩
          · rw [if_neg (by simp [q1])] at hs
            rw [q1] at ce
            cases hs

set_option maxHeartbeats 4000000 in
theorem rdSeg0_s (b : List UInt8) (i : Int) (hb : b.length ≤ 1073741824) (hs : rdSeg b i = none) : ACall Try.prog 69 [.sl (b.map byteRow), .int .i64 i] (.tup [.agg [.int .i64 0, .int .i64 0, .nl], .int .i64 0, .bool false]) [] := by
  have c := decI_s b i 3 hb (by omega)
  unfold rdSeg at hs
  cases hd : decI b i 3 with
  | none =>
    rw [hd] at c hs
    simp only [decD] at c
    simp only at hs
    have c' : ACall Try.prog 158 [.sl (b.map byteRow), .int .i64 i, .int .i64 3] (.tup [.sl [], .int .i64 0, .bool false]) [] := c
    refine acall_mk Try.func69 rfl Try.ntmps69 Try.results69 (by kernel_rfl) (by simp) ?_
    simp only [args, Nat.zero_add, Nat.reduceAdd]
    repeat' (first | with_reducible refine go ?_ | with_reducible refine t_region fun KT hT => ?_ | (refine gp fun KK hK => ?_; first | (refine hK _ _ ?_; clear hK KK) | (refine hK _ ?_; clear hK KK; try simp only [upd_mk]) | ((with_reducible first | refine .inl ⟨_, _, ⟨c', rfl, csq⟩, hK _ _ (nz ?_)⟩ | refine ⟨_, ⟨c', rfl, rfl, csq⟩, hK _ (nz ?_)⟩); clear hK KK) | (refine ⟨by first | exact eq_hop, hK _ _ ?_⟩; clear hK KK) | (refine ⟨by first | exact eq_hop, hK _ (nz ?_)⟩; clear hK KK) | ((repeat refine And.intro (by first | omega | (rw [getD_map_lt (by omega)]; rfl) | (simp; first | done | omega)) ?_); first | (refine hK _ _ ?_; clear hK KK) | (refine hK _ ?_; clear hK KK; try simp only [upd_mk]))) | ((with_reducible first | refine o_nil (hT _ _ ?_) | refine h_nil (hT _ ?_)); clear hT KT) | ((first | refine gd fun AA BB hA hB => ?_ | refine tc fun AA BB hA hB => ?_); first | (refine go ?_; (first | refine hA ?_ | refine hB ?_); clear hA hB AA BB) | (refine go2 ?_ ?_ <;> intro hb <;> (first | refine hA ?_ | refine hB ?_) <;> clear hA hB AA BB <;> (try simp only [hb, decide_true, decide_false]) <;> (try (exfalso; first | (simp at hb; done) | (simp at hb; omega))))) | (with_reducible refine skS ?_; simp only [upd_mk]) | with_reducible refine tdr fun KT hT => ?_ | with_reducible refine bY ?_)
    (refine fo [] ?_; try exact trivial)
    exact ⟨rfl, rfl, by simp⟩
  | some p =>
    obtain ⟨l, e⟩ := p
    obtain ⟨hl, hnn⟩ := decI_some hd
    match l, hl with
    | [ts, be, n], _ =>
      rw [hd] at c hs
      simp only [decD, List.map_cons, List.map_nil] at c
      simp only at hs
      have c' : ACall Try.prog 158 [.sl (b.map byteRow), .int .i64 i, .int .i64 3] (.tup [.sl [intRow ts, intRow be, intRow n], .int .i64 e, .bool true]) [] := c
      obtain ⟨m, rfl⟩ : ∃ m : Nat, n = (m : Int) := ⟨n.toNat, by have := hnn n (by simp); omega⟩
      simp only [Int.toNat_natCast] at hs
      clear c hd hnn
      rcases Nat.lt_or_ge 8 m with h8 | h8
      · rw [if_neg (by omega)] at hs
        have g0 : decide ((8 : Int) < (m : Int)) = true := decide_eq_true (by omega)
        refine acall_mk Try.func69 rfl Try.ntmps69 Try.results69 (by kernel_rfl) (by simp) ?_
        simp only [args, Nat.zero_add, Nat.reduceAdd]
        (have fx := (@g0)
         repeat' (first | with_reducible refine go ?_ | with_reducible refine t_region fun KT hT => ?_ | (refine gp fun KK hK => ?_; first | (refine hK _ _ ?_; clear hK KK) | (refine hK _ ?_; clear hK KK; try simp only [upd_mk]) | ((with_reducible first | refine .inl ⟨_, _, ⟨c', rfl, csq⟩, hK _ _ (nz ?_)⟩ | refine ⟨_, ⟨c', rfl, rfl, csq⟩, hK _ (nz ?_)⟩); clear hK KK) | (refine ⟨by first | exact eq_hop, hK _ _ ?_⟩; clear hK KK) | (refine ⟨by first | exact eq_hop, hK _ (nz ?_)⟩; clear hK KK) | ((repeat refine And.intro (by first | omega | (rw [getD_map_lt (by omega)]; rfl) | (simp; first | done | omega)) ?_); first | (refine hK _ _ ?_; clear hK KK) | (refine hK _ ?_; clear hK KK; try simp only [upd_mk]))) | ((with_reducible first | refine o_nil (hT _ _ ?_) | refine h_nil (hT _ ?_)); clear hT KT) | ((first | refine gd fun AA BB hA hB => ?_ | refine tc fun AA BB hA hB => ?_); first | (refine go ?_; (first | refine hA ?_ | refine hB ?_); clear hA hB AA BB) | (refine go2 ?_ ?_ <;> intro hb <;> (first | refine hA ?_ | refine hB ?_) <;> clear hA hB AA BB <;> (try simp only [hb, decide_true, decide_false]) <;> (try (exfalso; first | (simp at hb; done) | (simp at hb; omega))))) | (with_reducible refine skS ?_; simp only [upd_mk]) | with_reducible refine tdr fun KT hT => ?_ | with_reducible refine bY ?_)
         all_goals clear fx)
        (refine fo [] ?_; try exact trivial)
        exact ⟨rfl, rfl, by simp⟩
      · rw [if_pos (by omega)] at hs
        have g0 : decide ((8 : Int) < (m : Int)) = false := decide_eq_false (by omega)
        refine acall_mk Try.func69 rfl Try.ntmps69 Try.results69 (by kernel_rfl) (by simp) ?_
        simp only [args, Nat.zero_add, Nat.reduceAdd]
        (have fx := (@g0)
         repeat' (first | with_reducible refine go ?_ | with_reducible refine t_region fun KT hT => ?_ | (refine kd 0 ?_; refine g_nil ?_; simp only [realS_mk, realM_mk, pvS, pv, List.nil_append, List.cons_append]; try (refine hT _ _ ?_; clear hT KT)) | (refine kd 1 ?_; refine g_alloc (by first | exact congrArg TI.zero ti3 | exact congrArg TI.zero ti29 | exact congrArg TI.zero ti31 | exact congrArg TI.zero ti72 | exact congrArg TI.zero ti107) (by simp) (by rfl) (by rfl) (by simp) (by decide) rfl rfl rfl ?_) | (refine kd 2 ?_; refine g_store rfl rfl (by simp) (by decide) fun KK hK => ?_; simp only [pv, stp, hv, qv, ev, cD, scr, scrL, Ent.scr, flat, one, binQ, ldQ, storeQ, lay, Nat.reduceLT, Nat.reduceLeDiff, Nat.reduceAdd, Nat.reduceEqDiff, Nat.reduceMul, Nat.reduceSub, reduceIte, reduceCtorEq, fillQ, bne_iff_ne, Nat.reduceBNe, Nat.reduceBEq, rowsOf, cloL, clo, exists_eq_left', exists_and_left, appendQ, partsQ, Int.cast_ofNat_Int, Int.reduceBEq, Int.reduceBNe, Int.reduceLT, Int.reduceLE, Int.reduceEq, Int.reduceNe, Int.reduceAdd, Int.reduceSub, Int.reduceNeg, Int.reduceToNat, decide_true, decide_false, ne_eq, not_false_eq_true, true_and, and_true, Nat.add_zero, Nat.zero_add, Nat.not_lt_zero, Bool.not_true, Bool.not_false, Int.le_refl, bA, bB, callQ, viewL, view, noFsL, noFs, intsOf, Option.map_some, bT, gx, fx]; refine hK _ ?_; clear hK KK; try simp only [del_cons, del_nil, upd_mk, Nat.reduceEqDiff, reduceIte]) | (refine kd 3 ?_; (first | refine g_bcall rfl (by decide) rfl (by first | exact c' | (simp only [stp, hv, qv, ev, cD, scr, scrL, Ent.scr, flat, one, binQ, ldQ, storeQ, lay, Nat.reduceLT, Nat.reduceLeDiff, Nat.reduceAdd, Nat.reduceEqDiff, Nat.reduceMul, Nat.reduceSub, reduceIte, reduceCtorEq, fillQ, bne_iff_ne, Nat.reduceBNe, Nat.reduceBEq, rowsOf, cloL, clo, exists_eq_left', exists_and_left, appendQ, partsQ, Int.cast_ofNat_Int, Int.reduceBEq, Int.reduceBNe, Int.reduceLT, Int.reduceLE, Int.reduceEq, Int.reduceNe, Int.reduceAdd, Int.reduceSub, Int.reduceNeg, Int.reduceToNat, decide_true, decide_false, ne_eq, not_false_eq_true, true_and, and_true, Nat.add_zero, Nat.zero_add, Nat.not_lt_zero, Bool.not_true, Bool.not_false, Int.le_refl, bA, bB, callQ, viewL, view, noFsL, noFs, intsOf, Option.map_some, bT, gx, fx]; exact c')) (by rfl) csq (by intro d hd; (repeat (rcases List.mem_cons.1 hd with rfl | hd; · exact ⟨⟨rfl, rfl⟩, rfl, rfl⟩)); cases hd) (by first | exact yA_nil | (intro i e hi; simp only [mkT] at hi; (repeat' split at hi) <;> simp_all)) ?_); simp only [addS, addM, ren, renL, rid, scr, scrL, Ent.scr, Nat.reduceMul, Nat.reduceAdd, Nat.reduceEqDiff, reduceIte, bA]) | (refine gp fun KK hK => ?_; first | (refine hK _ _ ?_; clear hK KK) | (refine hK _ ?_; clear hK KK; try simp only [upd_mk]) | ((with_reducible first | refine .inl ⟨_, _, ⟨c', rfl, csq⟩, hK _ _ (nz ?_)⟩ | refine ⟨_, ⟨c', rfl, rfl, csq⟩, hK _ (nz ?_)⟩); clear hK KK) | (refine ⟨by first | exact eq_hop, hK _ _ ?_⟩; clear hK KK) | (refine ⟨by first | exact eq_hop, hK _ (nz ?_)⟩; clear hK KK) | ((repeat refine And.intro (by first | omega | (rw [getD_map_lt (by omega)]; rfl) | (simp; first | done | omega)) ?_); first | (refine hK _ _ ?_; clear hK KK) | (refine hK _ ?_; clear hK KK; try simp only [upd_mk]))) | ((with_reducible first | refine o_nil (hT _ _ ?_) | refine h_nil (hT _ ?_)); clear hT KT) | ((first | refine gd fun AA BB hA hB => ?_ | refine tc fun AA BB hA hB => ?_); first | (refine go ?_; (first | refine hA ?_ | refine hB ?_); clear hA hB AA BB) | (refine go2 ?_ ?_ <;> intro hb <;> (first | refine hA ?_ | refine hB ?_) <;> clear hA hB AA BB <;> (try simp only [hb, decide_true, decide_false]) <;> (try (exfalso; first | (simp at hb; done) | (simp at hb; omega))))) | (with_reducible refine skS ?_; simp only [upd_mk]) | (refine t_drawG (id := 4) [] [10] (by kernel_rfl) (by decide) (by kernel_rfl) fun KT hT => ?_) | with_reducible refine tdr fun KT hT => ?_ | with_reducible refine bY ?_)
         all_goals clear fx)
        refine t_loop (fun q : Nat × Nat × List Hp => [(0, .sl (b.map byteRow)), (4, .ptr 4 0 0), (7, .sl [intRow ts, intRow be, intRow m]), (8, .int .i64 (q.2.1 : Int)), (10, .ptr 10 0 0), (11, .int .i64 (q.1 : Int))]) (fun q => [(10, .box [.int .i64 ts, .int .i64 be, .fs 99]), (99, .row (q.2.2.map hopRow)), (4, .box [.int .i64 0, .int .i64 0, .nl])]) (fun q => q.1 ≤ m ∧ q.2.2.length = q.1 ∧ rdHops b e m = (rdHops b q.2.1 (m - q.1)).map fun r => (q.2.2 ++ r.1, r.2)) (fun q => m - q.1) (0, e, []) (imp_nilB 10 2 99 rfl rfl rfl (imp_keep (by simp [Keep, mk]) (by simp [KeepT, mkT]) rfl)) ⟨by simp, rfl, by simp⟩ ?_
        rintro ⟨k, z1, acc⟩ ⟨hk, hl, hr⟩
        simp only at hk hl hr
        rcases Nat.lt_or_ge k m with h | h
        · have e1 : decide ((k : Int) < (m : Int)) = true := decide_eq_true (by omega)
          rw [show m - k = (m - (k + 1)) + 1 by omega, rdHops] at hr
          have cc := rdHop_s b (z1 : Int) hb
          cases hv : rdHop b (z1 : Int) with
          | none =>
            rw [hv] at cc hr
            simp only [rdHopD] at cc
            simp only [Option.map_none] at hr
            rw [hr] at hs
            (have fx := (@e1)
             repeat' (first | with_reducible refine go ?_ | with_reducible refine t_region fun KT hT => ?_ | (refine gp fun KK hK => ?_; first | (refine hK _ _ ?_; clear hK KK) | (refine hK _ ?_; clear hK KK; try simp only [upd_mk]) | ((with_reducible first | refine .inl ⟨_, _, ⟨cc, rfl, csq⟩, hK _ _ (nz ?_)⟩ | refine ⟨_, ⟨cc, rfl, rfl, csq⟩, hK _ (nz ?_)⟩); clear hK KK) | (refine ⟨by first | exact eq_hop, hK _ _ ?_⟩; clear hK KK) | (refine ⟨by first | exact eq_hop, hK _ (nz ?_)⟩; clear hK KK) | ((repeat refine And.intro (by first | omega | (rw [getD_map_lt (by omega)]; rfl) | (simp; first | done | omega)) ?_); first | (refine hK _ _ ?_; clear hK KK) | (refine hK _ ?_; clear hK KK; try simp only [upd_mk]))) | ((with_reducible first | refine o_nil (hT _ _ ?_) | refine h_nil (hT _ ?_)); clear hT KT) | ((first | refine gd fun AA BB hA hB => ?_ | refine tc fun AA BB hA hB => ?_); first | (refine go ?_; (first | refine hA ?_ | refine hB ?_); clear hA hB AA BB) | (refine go2 ?_ ?_ <;> intro hb <;> (first | refine hA ?_ | refine hB ?_) <;> clear hA hB AA BB <;> (try simp only [hb, decide_true, decide_false]) <;> (try (exfalso; first | (simp at hb; done) | (simp at hb; omega))))) | (with_reducible refine skS ?_; simp only [upd_mk]) | with_reducible refine tdr fun KT hT => ?_ | with_reducible refine bY ?_)
             all_goals clear fx)
            (refine fo [] ?_; try exact trivial)
            exact ⟨rfl, rfl, by simp⟩
          | some p =>
            obtain ⟨v, w⟩ := p
            rw [hv] at cc hr
            simp only [rdHopD] at cc
            simp only at hr
            have wk := wrapS (show k < 4611686018427387904 by omega)
            have ha := hop_rows_app acc v
            simp only [hopRow] at ha
            (have fx := And.intro (@e1) (And.intro (@hl) (And.intro (@wk) (@ha)))
             repeat' (first | with_reducible refine go ?_ | with_reducible refine t_region fun KT hT => ?_ | (refine gp fun KK hK => ?_; first | (refine hK _ _ ?_; clear hK KK) | (refine hK _ ?_; clear hK KK; try simp only [upd_mk]) | ((with_reducible first | refine .inl ⟨_, _, ⟨cc, rfl, csq⟩, hK _ _ (nz ?_)⟩ | refine ⟨_, ⟨cc, rfl, rfl, csq⟩, hK _ (nz ?_)⟩); clear hK KK) | (refine ⟨by first | exact eq_hop, hK _ _ ?_⟩; clear hK KK) | (refine ⟨by first | exact eq_hop, hK _ (nz ?_)⟩; clear hK KK) | ((repeat refine And.intro (by first | omega | (rw [getD_map_lt (by omega)]; rfl) | (simp; first | done | omega)) ?_); first | (refine hK _ _ ?_; clear hK KK) | (refine hK _ ?_; clear hK KK; try simp only [upd_mk]))) | ((with_reducible first | refine o_nil (hT _ _ ?_) | refine h_nil (hT _ ?_)); clear hT KT) | ((first | refine gd fun AA BB hA hB => ?_ | refine tc fun AA BB hA hB => ?_); first | (refine go ?_; (first | refine hA ?_ | refine hB ?_); clear hA hB AA BB) | (refine go2 ?_ ?_ <;> intro hb <;> (first | refine hA ?_ | refine hB ?_) <;> clear hA hB AA BB <;> (try simp only [hb, decide_true, decide_false]) <;> (try (exfalso; first | (simp at hb; done) | (simp at hb; omega))))) | (with_reducible refine skS ?_; simp only [upd_mk]) | with_reducible refine tdr fun KT hT => ?_ | with_reducible refine bY ?_)
             all_goals clear fx)
            refine k_rnd (k + 1, w, acc ++ [v]) (imp_drop 12 (imp_drop 58 (imp_keep ?_ ?_ rfl))) ⟨h, by simp [hl], ?_⟩ (by simp only; omega)
            · simp [Keep, mk, scrP, scr]
            · simp [KeepT, mkT, del, scrT, Ent.scr, scrL, scr]
            · rw [hr, Option.map_map]
              congr 1
              funext r
              simp
        · obtain rfl : k = m := by omega
          have e1 : decide ((k : Int) < (k : Int)) = false := by simp
          rw [Nat.sub_self, rdHops] at hr
          simp only [Option.map_some, List.append_nil] at hr
          rw [hr] at hs
          simp only at hs
          have ce := enc_s ⟨ts, be, acc⟩ (by simp only; omega)
          simp only [segRow] at ce
          rcases Bool.eq_false_or_eq_true (encodable ⟨ts, be, acc⟩) with q1 | q1
          · rw [if_pos q1] at hs
            rw [q1] at ce
            cases hs
          · rw [if_neg (by simp [q1])] at hs
            rw [q1] at ce
            (have fx := (@e1)
             repeat' (first | with_reducible refine go ?_ | with_reducible refine t_region fun KT hT => ?_ | (refine gp fun KK hK => ?_; first | (refine hK _ _ ?_; clear hK KK) | (refine hK _ ?_; clear hK KK; try simp only [upd_mk]) | ((with_reducible first | refine .inl ⟨_, _, ⟨ce, rfl, csq⟩, hK _ _ (nz ?_)⟩ | refine ⟨_, ⟨ce, rfl, rfl, csq⟩, hK _ (nz ?_)⟩); clear hK KK) | (refine ⟨by first | exact eq_hop, hK _ _ ?_⟩; clear hK KK) | (refine ⟨by first | exact eq_hop, hK _ (nz ?_)⟩; clear hK KK) | ((repeat refine And.intro (by first | omega | (rw [getD_map_lt (by omega)]; rfl) | (simp; first | done | omega)) ?_); first | (refine hK _ _ ?_; clear hK KK) | (refine hK _ ?_; clear hK KK; try simp only [upd_mk]))) | ((with_reducible first | refine o_nil (hT _ _ ?_) | refine h_nil (hT _ ?_)); clear hT KT) | ((first | refine gd fun AA BB hA hB => ?_ | refine tc fun AA BB hA hB => ?_); first | (refine go ?_; (first | refine hA ?_ | refine hB ?_); clear hA hB AA BB) | (refine go2 ?_ ?_ <;> intro hb <;> (first | refine hA ?_ | refine hB ?_) <;> clear hA hB AA BB <;> (try simp only [hb, decide_true, decide_false]) <;> (try (exfalso; first | (simp at hb; done) | (simp at hb; omega))))) | (with_reducible refine skS ?_; simp only [upd_mk]) | with_reducible refine tdr fun KT hT => ?_ | with_reducible refine bY ?_)
             all_goals clear fx)
            (refine fo [] ?_; try exact trivial)
            exact ⟨rfl, rfl, by simp⟩

end Go.Proofs.Ytmiclkgkfkcnoaa
