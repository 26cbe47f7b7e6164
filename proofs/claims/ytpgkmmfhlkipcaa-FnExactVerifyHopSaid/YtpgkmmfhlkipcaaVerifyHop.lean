/- The law FnExactVerifyHop. -/
import Derived.Test.YtpgkmmfhlkipcaaRows
import Derived.WalkKit
import Derived.ProofKit
import Derived.OpenShut
import Derived.ShutString
import Derived.ChangeOld
import Derived.Below
import Derived.Test.YtpgkmmfhlkipcaaLh
namespace Go.Proofs.Ytpgkmmfhlkipcaa
open Go.ChangeShapes Go.WideShapes Go.ChangeAt Go.RowKit
open Go.ChangeMaps (open_string shut_string)
set_option linter.unusedVariables false
theorem own : ownKnob Try.prog.godebug = none := by kernel_rfl
theorem laidOut : laidOutB Try.prog = true := by kernel_rfl
set_option linter.unusedSimpArgs false
set_option maxRecDepth 100000

theorem fnExactVerifyHop_law {x0 : List D} (i0 : IsL [.slice [.int .i64, .bool, .int .i64], .slice [.int .i64, .int .i64, .int .i64, .int .i64, .int .i64]] x0) {x1 : D} (i1 : IsC (.int .i64) x1) {x2 : D} (i2 : IsC (.int .i64) x2) {x3 : List D} (i3 : IsL [.int .i64, .int .i64, .int .i64, .int .i64, .int .i64] x3) : ACall Try.prog 12 [.agg x0, x1, x2, .agg x3] (.bool true) [] := by
  obtain ⟨t, rfl, ⟨hm, hm'⟩, wt⟩ := isTpW i0
  obtain ⟨ts, rfl⟩ := isInt i1
  obtain ⟨be, rfl⟩ := isInt i2
  obtain ⟨h, rfl⟩ := isHop i3
  unfold maxLen at hm hm'
  have c := szTopology_ok t 1048576 (by omega) (by omega) (by omega)
  by_cases hl : (1048576 : Int) - t.ases.length - t.links.length < 0
  · rw [szTp, if_pos hl] at c
    refine acall_mk Try.func12 rfl Try.ntmps12 Try.results12 (by kernel_rfl) (by simp) ?_
    simp only [args, Nat.zero_add, Nat.reduceAdd]
    repeat' (first
      | (with_reducible first | refine t_seq ?_ | refine t_block ?_ | refine Tr.skip ?_ | refine Tr.ret ?_ | refine Tr.exit ?_ | refine k_seq ?_ | refine k_seqR ?_ | refine k_seqX ?_ | refine k_blk ?_ | refine k_blkR ?_ | refine k_blkX ?_ | refine k_rndX ?_ | refine k_rndR ?_ | refine t_region fun KT hT => ?_ | refine t_draw (by kernel_rfl) (by kernel_rfl) fun KT hT => ?_)
      | refine k_blkY (by decide) ?_
      | ((with_reducible first | refine o_plain fun KK hK => ?_ | refine h_plain (by decide) fun KK hK => ?_ | refine h_none fun KK hK => ?_); simp only [stp, hv, qv, ev, cD, upd_mk, upd_mkT, mk_nil, mk_cons, mkT_nil, mkT_cons, scrS_mk, scrM_mkT, scrP_nil, scrP_cons, scrT_nil, scrT_cons, scr, scrL, Ent.scr, flat, one, List.all_cons, List.all_nil, Bool.and_true, Bool.true_and, Bool.and_self, binQ, ldQ, storeQ, lay, List.length_cons, List.length_nil, List.take_succ_cons, List.take_zero, List.drop_succ_cons, List.drop_zero, List.take_nil, List.drop_nil, List.nil_append, List.cons_append, List.append_nil, List.getD_cons_zero, List.getD_cons_succ, Nat.reduceLT, Nat.reduceLeDiff, Nat.reduceAdd, Nat.reduceEqDiff, Nat.reduceMul, Nat.reduceSub, reduceIte, reduceCtorEq, ne_eq, not_false_eq_true, true_and, and_true, Nat.add_zero, Nat.zero_add, Nat.not_lt_zero, fillQ, List.map_cons, List.map_nil, List.getElem?_cons_zero, List.getElem?_cons_succ, bne_iff_ne, Nat.reduceBNe, Nat.reduceBEq, rowsOf, List.length_map, Int.toNat_natCast, Int.natCast_nonneg, del_nil, del_cons, cloL, clo, Option.some.injEq, exists_eq_left', exists_and_left, Ent.row.injEq, appendQ, partsQ, Int.cast_ofNat_Int, Int.reduceBEq, Int.reduceBNe, Int.reduceLT, Int.reduceLE, Int.reduceEq, Int.reduceNe, Int.reduceAdd, Int.reduceSub, Int.reduceNeg, Int.reduceToNat, decide_true, decide_false, Bool.not_true, Bool.not_false, Int.le_refl, callQ, viewL, view, noFsL, noFs, intsOf, Option.map_some, ti3, ti4, ti5, ti9, ti23, ti24, ti26, ti29, ti31, ti33, ti39, ti41, ti52, ti59, ti63, ti66, ti69, ti75, ti76, ti78, ti79, ti82, ti83, ti85, ti110, ti119, ti124, ti126, ti128, hopRow, polRow, segRow, intRow, rowLen_ints, rowLen_nil, rowLen_cons, rowLen_append, List.length_append, byteRow, rowLen_bytes, bytesOf_map, bytesOf_cons, bytesOf_one, asRow, lkRow, tpRow, rowLen_hops, rowLen_ases, rowLen_links]; first | (refine hK _ _ ?_; clear hK KK) | (refine hK _ ?_; clear hK KK; try simp only [upd_mk]) | ((with_reducible first | refine ⟨_, _, ⟨c, rfl, by first | exact .inl rfl | exact .inl trivial | (simp [FlatRows, noSl, noSlL]; done)⟩, hK _ _ ?_⟩); clear hK KK; simp only [del_nil, del_cons, addS, addM, ren, renL, rid, upd_mk, upd_mkT, scrS_mk, scrM_mkT, scrP_nil, scrP_cons, scrT_nil, scrT_cons, scr, scrL, Ent.scr, Nat.reduceMul, Nat.reduceAdd, Nat.reduceEqDiff, reduceIte]) | ((with_reducible first | refine ⟨_, ⟨c, rfl, rfl, by first | exact .inl rfl | exact .inl trivial | (simp [FlatRows, noSl, noSlL]; done)⟩, hK _ ?_⟩); clear hK KK; simp only [upd_mk]) | (refine ⟨by first | exact eq_hop, hK _ _ ?_⟩; clear hK KK) | (refine ⟨by first | exact eq_hop, hK _ ?_⟩; clear hK KK; simp only [upd_mk]) | ((repeat refine And.intro (by first | omega | (simp; done)) ?_); first | (refine hK _ _ ?_; clear hK KK) | (refine hK _ ?_; clear hK KK; try simp only [upd_mk])))
      | ((with_reducible first | refine o_nil (hT _ _ ?_) | refine h_nil (hT _ ?_)); clear hT KT)
      | ((first | refine o_guard _ rfl fun AA BB hA hB => ?_ | refine h_guard _ rfl fun AA BB hA hB => ?_ | with_reducible refine t_cond fun AA BB hA hB => ?_); simp only [mk_cons, mk_nil, ev, cD, Nat.reduceEqDiff, reduceIte]; first | ((with_reducible first | refine g_yT (hA ?_) | refine g_nF (hB ?_) | refine g_yF (hA ?_) | refine g_nT (hB ?_) | refine g_nov (hB ?_) | refine c_T (hA ?_) | refine c_F (hB ?_)); clear hA hB AA BB) | ((with_reducible first | refine g_sT (fun hb => hA ?_) (fun hb => hB ?_) | refine g_sF (fun hb => hA ?_) (fun hb => hB ?_) | refine c_s (fun hb => hA ?_) (fun hb => hB ?_)) <;> clear hA hB AA BB <;> (try simp only [hb, decide_true, decide_false]) <;> (try (exfalso; first | (simp at hb; done) | (simp at hb; omega)))))
      | (with_reducible refine skip_some (by decide) ?_; simp only [upd_mk]))
    all_goals refine (fin_closed ?_).1
    all_goals simp only [resQ, packD, callQ, viewL, view, noFsL, noFs, intsOf, Option.map_some, stp, hv, qv, ev, cD, upd_mk, upd_mkT, mk_nil, mk_cons, mkT_nil, mkT_cons, scrS_mk, scrM_mkT, scrP_nil, scrP_cons, scrT_nil, scrT_cons, scr, scrL, Ent.scr, flat, one, List.all_cons, List.all_nil, Bool.and_true, Bool.true_and, Bool.and_self, binQ, ldQ, storeQ, lay, List.length_cons, List.length_nil, List.take_succ_cons, List.take_zero, List.drop_succ_cons, List.drop_zero, List.take_nil, List.drop_nil, List.nil_append, List.cons_append, List.append_nil, List.getD_cons_zero, List.getD_cons_succ, Nat.reduceLT, Nat.reduceLeDiff, Nat.reduceAdd, Nat.reduceEqDiff, Nat.reduceMul, Nat.reduceSub, reduceIte, reduceCtorEq, ne_eq, not_false_eq_true, true_and, and_true, Nat.add_zero, Nat.zero_add, Nat.not_lt_zero, fillQ, List.map_cons, List.map_nil, List.getElem?_cons_zero, List.getElem?_cons_succ, bne_iff_ne, Nat.reduceBNe, Nat.reduceBEq, rowsOf, List.length_map, Int.toNat_natCast, Int.natCast_nonneg, del_nil, del_cons, cloL, clo, Option.some.injEq, exists_eq_left', exists_and_left, Ent.row.injEq, appendQ, partsQ, Int.cast_ofNat_Int, Int.reduceBEq, Int.reduceBNe, Int.reduceLT, Int.reduceLE, Int.reduceEq, Int.reduceNe, Int.reduceAdd, Int.reduceSub, Int.reduceNeg, Int.reduceToNat, decide_true, decide_false, Bool.not_true, Bool.not_false, Int.le_refl, ti3, ti4, ti5, ti9, ti23, ti24, ti26, ti29, ti31, ti33, ti39, ti41, ti52, ti59, ti63, ti66, ti69, ti75, ti76, ti78, ti79, ti82, ti83, ti85, ti110, ti119, ti124, ti126, ti128, hopRow, polRow, segRow, intRow, rowLen_ints, rowLen_nil, rowLen_cons, rowLen_append, List.length_append, byteRow, rowLen_bytes, bytesOf_map, bytesOf_cons, bytesOf_one, asRow, lkRow, tpRow, rowLen_hops, rowLen_ases, rowLen_links]
    all_goals simp_all
  · rw [szTp, if_neg hl] at c
    have h1 : t.ases.length ≤ 1048576 := by omega
    have h2 : t.links.length ≤ 1048576 := by omega
    have e0 : decide ((1048576 : Int) - t.ases.length - t.links.length < 0) = false := decide_eq_false hl
    refine acall_mk Try.func12 rfl Try.ntmps12 Try.results12 (by kernel_rfl) (by simp) ?_
    simp only [args, Nat.zero_add, Nat.reduceAdd]
    repeat' (first
      | (with_reducible first | refine t_seq ?_ | refine t_block ?_ | refine Tr.skip ?_ | refine Tr.ret ?_ | refine Tr.exit ?_ | refine k_seq ?_ | refine k_seqR ?_ | refine k_seqX ?_ | refine k_blk ?_ | refine k_blkR ?_ | refine k_blkX ?_ | refine k_rndX ?_ | refine k_rndR ?_ | refine t_region fun KT hT => ?_ | refine t_draw (by kernel_rfl) (by kernel_rfl) fun KT hT => ?_)
      | refine k_blkY (by decide) ?_
      | ((with_reducible first | refine o_plain fun KK hK => ?_ | refine h_plain (by decide) fun KK hK => ?_ | refine h_none fun KK hK => ?_); simp only [stp, hv, qv, ev, cD, upd_mk, upd_mkT, mk_nil, mk_cons, mkT_nil, mkT_cons, scrS_mk, scrM_mkT, scrP_nil, scrP_cons, scrT_nil, scrT_cons, scr, scrL, Ent.scr, flat, one, List.all_cons, List.all_nil, Bool.and_true, Bool.true_and, Bool.and_self, binQ, ldQ, storeQ, lay, List.length_cons, List.length_nil, List.take_succ_cons, List.take_zero, List.drop_succ_cons, List.drop_zero, List.take_nil, List.drop_nil, List.nil_append, List.cons_append, List.append_nil, List.getD_cons_zero, List.getD_cons_succ, Nat.reduceLT, Nat.reduceLeDiff, Nat.reduceAdd, Nat.reduceEqDiff, Nat.reduceMul, Nat.reduceSub, reduceIte, reduceCtorEq, ne_eq, not_false_eq_true, true_and, and_true, Nat.add_zero, Nat.zero_add, Nat.not_lt_zero, fillQ, List.map_cons, List.map_nil, List.getElem?_cons_zero, List.getElem?_cons_succ, bne_iff_ne, Nat.reduceBNe, Nat.reduceBEq, rowsOf, List.length_map, Int.toNat_natCast, Int.natCast_nonneg, del_nil, del_cons, cloL, clo, Option.some.injEq, exists_eq_left', exists_and_left, Ent.row.injEq, appendQ, partsQ, Int.cast_ofNat_Int, Int.reduceBEq, Int.reduceBNe, Int.reduceLT, Int.reduceLE, Int.reduceEq, Int.reduceNe, Int.reduceAdd, Int.reduceSub, Int.reduceNeg, Int.reduceToNat, decide_true, decide_false, Bool.not_true, Bool.not_false, Int.le_refl, callQ, viewL, view, noFsL, noFs, intsOf, Option.map_some, ti3, ti4, ti5, ti9, ti23, ti24, ti26, ti29, ti31, ti33, ti39, ti41, ti52, ti59, ti63, ti66, ti69, ti75, ti76, ti78, ti79, ti82, ti83, ti85, ti110, ti119, ti124, ti126, ti128, e0, hopRow, polRow, segRow, intRow, rowLen_ints, rowLen_nil, rowLen_cons, rowLen_append, List.length_append, byteRow, rowLen_bytes, bytesOf_map, bytesOf_cons, bytesOf_one, asRow, lkRow, tpRow, rowLen_hops, rowLen_ases, rowLen_links]; first | (refine hK _ _ ?_; clear hK KK) | (refine hK _ ?_; clear hK KK; try simp only [upd_mk]) | ((with_reducible first | refine ⟨_, _, ⟨c, rfl, by first | exact .inl rfl | exact .inl trivial | (simp [FlatRows, noSl, noSlL]; done)⟩, hK _ _ ?_⟩ | refine ⟨_, _, ⟨toTopology_ro t h1 h2, rfl, by first | exact .inl rfl | exact .inl trivial | (simp [FlatRows, noSl, noSlL]; done)⟩, hK _ _ ?_⟩ | refine ⟨_, _, ⟨toHop_ok _ _ _ _ _, rfl, by first | exact .inl rfl | exact .inl trivial | (simp [FlatRows, noSl, noSlL]; done)⟩, hK _ _ ?_⟩ | refine ⟨_, _, ⟨verHop_s t _ _ h h1, rfl, by first | exact .inl rfl | exact .inl trivial | (simp [FlatRows, noSl, noSlL]; done)⟩, hK _ _ ?_⟩ | refine ⟨_, _, ⟨verHop_i t _ _ h h1, rfl, by first | exact .inl rfl | exact .inl trivial | (simp [FlatRows, noSl, noSlL]; done)⟩, hK _ _ ?_⟩ | refine ⟨_, _, ⟨eqTopology_ok t t h1 h2, rfl, by first | exact .inl rfl | exact .inl trivial | (simp [FlatRows, noSl, noSlL]; done)⟩, hK _ _ ?_⟩); clear hK KK; simp only [del_nil, del_cons, addS, addM, ren, renL, rid, upd_mk, upd_mkT, scrS_mk, scrM_mkT, scrP_nil, scrP_cons, scrT_nil, scrT_cons, scr, scrL, Ent.scr, Nat.reduceMul, Nat.reduceAdd, Nat.reduceEqDiff, reduceIte]) | ((with_reducible first | refine ⟨_, ⟨c, rfl, rfl, by first | exact .inl rfl | exact .inl trivial | (simp [FlatRows, noSl, noSlL]; done)⟩, hK _ ?_⟩ | refine ⟨_, ⟨toTopology_ro t h1 h2, rfl, rfl, by first | exact .inl rfl | exact .inl trivial | (simp [FlatRows, noSl, noSlL]; done)⟩, hK _ ?_⟩ | refine ⟨_, ⟨toHop_ok _ _ _ _ _, rfl, rfl, by first | exact .inl rfl | exact .inl trivial | (simp [FlatRows, noSl, noSlL]; done)⟩, hK _ ?_⟩ | refine ⟨_, ⟨verHop_s t _ _ h h1, rfl, rfl, by first | exact .inl rfl | exact .inl trivial | (simp [FlatRows, noSl, noSlL]; done)⟩, hK _ ?_⟩ | refine ⟨_, ⟨verHop_i t _ _ h h1, rfl, rfl, by first | exact .inl rfl | exact .inl trivial | (simp [FlatRows, noSl, noSlL]; done)⟩, hK _ ?_⟩ | refine ⟨_, ⟨eqTopology_ok t t h1 h2, rfl, rfl, by first | exact .inl rfl | exact .inl trivial | (simp [FlatRows, noSl, noSlL]; done)⟩, hK _ ?_⟩); clear hK KK; simp only [upd_mk]) | (refine ⟨by first | exact eq_hop, hK _ _ ?_⟩; clear hK KK) | (refine ⟨by first | exact eq_hop, hK _ ?_⟩; clear hK KK; simp only [upd_mk]) | ((repeat refine And.intro (by first | omega | (simp; done)) ?_); first | (refine hK _ _ ?_; clear hK KK) | (refine hK _ ?_; clear hK KK; try simp only [upd_mk])))
      | ((with_reducible first | refine o_nil (hT _ _ ?_) | refine h_nil (hT _ ?_)); clear hT KT)
      | ((first | refine o_guard _ rfl fun AA BB hA hB => ?_ | refine h_guard _ rfl fun AA BB hA hB => ?_ | with_reducible refine t_cond fun AA BB hA hB => ?_); simp only [mk_cons, mk_nil, ev, cD, Nat.reduceEqDiff, reduceIte, e0]; first | ((with_reducible first | refine g_yT (hA ?_) | refine g_nF (hB ?_) | refine g_yF (hA ?_) | refine g_nT (hB ?_) | refine g_nov (hB ?_) | refine c_T (hA ?_) | refine c_F (hB ?_)); clear hA hB AA BB) | ((with_reducible first | refine g_sT (fun hb => hA ?_) (fun hb => hB ?_) | refine g_sF (fun hb => hA ?_) (fun hb => hB ?_) | refine c_s (fun hb => hA ?_) (fun hb => hB ?_)) <;> clear hA hB AA BB <;> (try simp only [hb, decide_true, decide_false]) <;> (try (exfalso; first | (simp at hb; done) | (simp at hb; omega)))))
      | (with_reducible refine skip_some (by decide) ?_; simp only [upd_mk]))
    all_goals (refine (fin_closed ?_).1; simp only [resQ, packD, callQ, viewL, view, noFsL, noFs, intsOf, Option.map_some, stp, hv, qv, ev, cD, upd_mk, upd_mkT, mk_nil, mk_cons, mkT_nil, mkT_cons, scrS_mk, scrM_mkT, scrP_nil, scrP_cons, scrT_nil, scrT_cons, scr, scrL, Ent.scr, flat, one, List.all_cons, List.all_nil, Bool.and_true, Bool.true_and, Bool.and_self, binQ, ldQ, storeQ, lay, List.length_cons, List.length_nil, List.take_succ_cons, List.take_zero, List.drop_succ_cons, List.drop_zero, List.take_nil, List.drop_nil, List.nil_append, List.cons_append, List.append_nil, List.getD_cons_zero, List.getD_cons_succ, Nat.reduceLT, Nat.reduceLeDiff, Nat.reduceAdd, Nat.reduceEqDiff, Nat.reduceMul, Nat.reduceSub, reduceIte, reduceCtorEq, ne_eq, not_false_eq_true, true_and, and_true, Nat.add_zero, Nat.zero_add, Nat.not_lt_zero, fillQ, List.map_cons, List.map_nil, List.getElem?_cons_zero, List.getElem?_cons_succ, bne_iff_ne, Nat.reduceBNe, Nat.reduceBEq, rowsOf, List.length_map, Int.toNat_natCast, Int.natCast_nonneg, del_nil, del_cons, cloL, clo, Option.some.injEq, exists_eq_left', exists_and_left, Ent.row.injEq, appendQ, partsQ, Int.cast_ofNat_Int, Int.reduceBEq, Int.reduceBNe, Int.reduceLT, Int.reduceLE, Int.reduceEq, Int.reduceNe, Int.reduceAdd, Int.reduceSub, Int.reduceNeg, Int.reduceToNat, decide_true, decide_false, Bool.not_true, Bool.not_false, Int.le_refl, ti3, ti4, ti5, ti9, ti23, ti24, ti26, ti29, ti31, ti33, ti39, ti41, ti52, ti59, ti63, ti66, ti69, ti75, ti76, ti78, ti79, ti82, ti83, ti85, ti110, ti119, ti124, ti126, ti128, hopRow, polRow, segRow, intRow, rowLen_ints, rowLen_nil, rowLen_cons, rowLen_append, List.length_append, byteRow, rowLen_bytes, bytesOf_map, bytesOf_cons, bytesOf_one, asRow, lkRow, tpRow, rowLen_hops, rowLen_ases, rowLen_links])
    all_goals simp_all

namespace fnExactVerifyHopDone
set_option maxRecDepth 100000 in
theorem lifted (os : Os) (started : os.Started) (H : Type) (enc : TypeId × Value → H) :
    ReturnsInHanded {} Try.checked os 12 .any (Rows.fnExactVerifyHopSpec.pre6 enc Try.prog Try.f12 Rows.fnExactVerifyHopRow.domain false) (Rows.fnExactVerifyHopSpec.post enc Try.prog Try.f12 false true false false) := by
  refine returnsInHanded_of_change (C := Try.checked) own started (by kernel_rfl) Try.func12
    (ChangeSpec.witness6 (enc := enc) (C := Try.checked) false ⟨#[], #[.agg #[.slice none 0 0, .slice none 0 0], .int .i64 0, .int .i64 0, .agg #[.int .i64 0, .int .i64 0, .int .i64 0, .int .i64 0, .int .i64 0]], []⟩ 8 (by kernel_rfl) (by kernel_rfl) (by kernel_rfl) (by kernel_rfl)) ?_
  intro W base args ds gs before hval0 hW hcnd _
  have hval : ∀ (j : Nat) t v, Try.f12.params[j]? = some t → args[j]? = some v → Value.okWide Try.prog W .any base t v := hval0
  have hW' := hW
  obtain ⟨p, q, hA0, hV, rfl, hfz, hnd⟩ := hW
  have hA : DataW.TrodAll enc Try.prog W 0 (fun _ => true) true Try.f12.params.toList args.toList ds p := hA0
  rw [Try.params12] at hA hval
  obtain ⟨v0, vs0, d0, ds0, p0, q0, hargs, rfl, rfl, h0, r0⟩ := trodAll_cons hA
  obtain ⟨v1, vs1, d1, ds1, p1, q1, rfl, rfl, rfl, h1, r1⟩ := trodAll_cons r0
  obtain ⟨v2, vs2, d2, ds2, p2, q2, rfl, rfl, rfl, h2, r2⟩ := trodAll_cons r1
  obtain ⟨v3, vs3, d3, ds3, p3, q3, rfl, rfl, rfl, h3, r3⟩ := trodAll_cons r2
  obtain ⟨rfl, rfl, rfl⟩ := trodAll_nil r3
  obtain rfl : args = #[v0, v1, v2, v3] := by cases args; simp_all
  obtain ⟨rfl, rfl⟩ := trodVars_none hV
  have lt0 : ∀ x ∈ p0, x.block < W.heap.size := by obtain ⟨m, hm⟩ := h0; exact DataW.trod_lt m _ _ _ hm
  obtain ⟨x0, i0, e0⟩ := arg_struct 8 Try.underlying78 ct78 (hval 0 78 v0 rfl rfl) h0
  have lt1 : ∀ x ∈ p1, x.block < W.heap.size := by obtain ⟨m, hm⟩ := h1; exact DataW.trod_lt m _ _ _ hm
  have hc1 : v1.cells = #[v1] := by obtain ⟨n, rfl⟩ := okWide_int Try.underlying3 (hval 1 3 v1 rfl rfl); rfl
  obtain ⟨x1, i1, e1⟩ := arg_cell 8 ct3 hc1 h1
  have lt2 : ∀ x ∈ p2, x.block < W.heap.size := by obtain ⟨m, hm⟩ := h2; exact DataW.trod_lt m _ _ _ hm
  have hc2 : v2.cells = #[v2] := by obtain ⟨n, rfl⟩ := okWide_int Try.underlying3 (hval 2 3 v2 rfl rfl); rfl
  obtain ⟨x2, i2, e2⟩ := arg_cell 8 ct3 hc2 h2
  have lt3 : ∀ x ∈ p3, x.block < W.heap.size := by obtain ⟨m, hm⟩ := h3; exact DataW.trod_lt m _ _ _ hm
  obtain ⟨x3, i3, e3⟩ := arg_struct 8 Try.underlying79 ct79 (hval 3 79 v3 rfl rfl) h3
  clear hA0 hval0
  refine (law_calls (fnExactVerifyHop_law i0 i1 i2 i3) (vs := [v0, v1, v2, v3]) (by simp only [RcL]; exact ⟨v0, _, rfl, e0, ⟨v1, _, rfl, e1, ⟨v2, _, rfl, e2, ⟨v3, _, rfl, e3, rfl⟩⟩⟩⟩)).mono fun e W' ⟨he, bel⟩ => ?_
  subst he
  exact ⟨_, rfl, _, _, _, [], _, [], hW', trodAll_mk1 (shut_bool Try.underlying4 _), (trodAll_cons_mk (Below.trod laidOut (by kernel_rfl) (of_decide_eq_true (by kernel_rfl)) h0 bel lt0) (trodAll_cons_mk (Below.trod laidOut (by kernel_rfl) (of_decide_eq_true (by kernel_rfl)) h1 bel lt1) (trodAll_cons_mk (Below.trod laidOut (by kernel_rfl) (of_decide_eq_true (by kernel_rfl)) h2 bel lt2) (trodAll_cons_mk (Below.trod laidOut (by kernel_rfl) (of_decide_eq_true (by kernel_rfl)) h3 bel lt3) trodAll_mk0)))), rfl, bel.frame _, fun h => by cases h⟩

theorem over : Rows.fnExactVerifyHopRow.holds Try.pinned (OpenSpec.ofChange Rows.fnExactVerifyHopSpec) :=
  OpenClaim.holds_of_wide 12 Try.f12 rfl rfl rfl rfl rfl rfl rfl ⟨rfl, rfl, rfl, rfl, rfl⟩ rfl rfl rfl rfl rfl (by kernel_rfl) Try.func12 (by kernel_rfl)
    (of_decide_eq_true (by kernel_rfl)) (by unfold Func.isWrapper; first | (rw [if_pos (by decide +kernel)]; kernel_rfl) | (rw [if_neg (by decide +kernel)]; exact ⟨rfl, rfl⟩))
    (fun os started H enc _ => lifted os started H enc)

theorem proved : Rows.FnExactVerifyHopSaid := over
end fnExactVerifyHopDone

end Go.Proofs.Ytpgkmmfhlkipcaa
