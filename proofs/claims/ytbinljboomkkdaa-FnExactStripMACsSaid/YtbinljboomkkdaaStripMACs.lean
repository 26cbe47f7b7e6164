/- The law FnExactStripMACs. -/
import Derived.Test.YtbinljboomkkdaaRows
import Derived.WalkKit
import Derived.ProofKit
import Derived.OpenShut
import Derived.ShutString
import Derived.ChangeOld
import Derived.Below
import Derived.Test.YtbinljboomkkdaaLa2
import Derived.Test.YtbinljboomkkdaaLq3
import Derived.Test.YtbinljboomkkdaaLr2
import Derived.Test.YtbinljboomkkdaaLr3
namespace Go.Proofs.Ytbinljboomkkdaa
open Go.ChangeShapes Go.WideShapes Go.ChangeAt Go.RowKit
open Go.ChangeMaps (open_string shut_string)
set_option linter.unusedVariables false
theorem own : ownKnob Try.prog.godebug = none := by kernel_rfl
theorem laidOut : laidOutB Try.prog = true := by kernel_rfl
set_option linter.unusedSimpArgs false
set_option maxRecDepth 100000

theorem fnExactStripMACs_law {x0 : List D} (i0 : IsL [.int .i64, .int .i64, .slice [.int .i64, .int .i64, .int .i64, .int .i64, .int .i64]] x0) : ACall Try.prog 5 [.agg x0] (.bool true) [] := by
  obtain ⟨s, rfl, hm⟩ := isSeg i0
  unfold maxLen at hm
  by_cases hl : s.hops.length ≤ 1048576
  · have co := strip_i s hl
    have cs := strip_s s hl
    have hg : (strip s.hops).length ≤ 1048576 := by rw [strip_len]; exact hl
    generalize strip s.hops = g at *
    have e1 : decide ((1 : Int) + 5 * s.hops.length < 0) = false := decide_eq_false (by omega)
    have e3 : decide ((1 : Int) + 5 * g.length < 0) = false := decide_eq_false (by omega)
    have e4 : ((1 : Int) + 5 * g.length != 1 + 5 * g.length) = false := by simp
    have e5 : decide ((1048576 : Int) - s.hops.length < 0) = false := decide_eq_false (by omega)
    have c := szSegment_ok s 1048576 (by omega) (by omega)
    rw [if_neg (by omega)] at c
    refine acall_mk Try.func5 rfl Try.ntmps5 Try.results5 (by kernel_rfl) (by simp) ?_
    simp only [args, Nat.zero_add, Nat.reduceAdd]
    repeat' (first
      | (with_reducible first | refine t_seq ?_ | refine t_block ?_ | refine Tr.skip ?_ | refine Tr.ret ?_ | refine Tr.exit ?_ | refine k_seq ?_ | refine k_seqR ?_ | refine k_seqX ?_ | refine k_blk ?_ | refine k_blkR ?_ | refine k_blkX ?_ | refine k_rndX ?_ | refine k_rndR ?_ | refine t_region fun KT hT => ?_)
      | (with_reducible first | refine t_draw (by kernel_rfl) (by kernel_rfl) fun KT hT => ?_)
      | refine k_blkY (by decide) ?_
          | ((with_reducible first | refine o_plain fun KK hK => ?_ | refine h_plain (by decide) fun KK hK => ?_ | refine h_none fun KK hK => ?_ | refine ht_plain (by decide) fun KK hK => ?_ | refine x_plain (by decide) rfl fun KK hK => ?_ | refine xt_plain (by decide) rfl fun KK hK => ?_); simp only [stp, hv, qv, ev, cD, scr, scrL, Ent.scr, flat, one, binQ, ldQ, storeQ, lay, Nat.reduceLT, Nat.reduceLeDiff, Nat.reduceAdd, Nat.reduceEqDiff, Nat.reduceMul, Nat.reduceSub, reduceIte, reduceCtorEq, fillQ, bne_iff_ne, Nat.reduceBNe, Nat.reduceBEq, rowsOf, cloL, clo, exists_eq_left', exists_and_left, appendQ, partsQ, Int.cast_ofNat_Int, Int.reduceBEq, Int.reduceBNe, Int.reduceLT, Int.reduceLE, Int.reduceEq, Int.reduceNe, Int.reduceAdd, Int.reduceSub, Int.reduceNeg, Int.reduceToNat, decide_true, decide_false, ne_eq, not_false_eq_true, true_and, and_true, Nat.add_zero, Nat.zero_add, Nat.not_lt_zero, Bool.not_true, Bool.not_false, Int.le_refl, bA, bB, callQ, viewL, view, noFsL, noFs, intsOf, Option.map_some, ti3, ti38, ti43, e1, e3, e4, e5, hopRow, polRow, segRow, intRow, rowLen_ints, rowLen_nil, rowLen_cons, rowLen_append, List.length_append, byteRow, rowLen_bytes, bytesOf_map, bytesOf_cons, bytesOf_one, rowLen_strs, asRow, lkRow, tpRow, rowLen_hops, rowLen_ases, rowLen_links, bcRow, rowLen_bcs, u8Row, intRow]; first | (refine hK _ _ ?_; clear hK KK) | (refine hK _ ?_; clear hK KK; try simp only [upd_mk]) | ((with_reducible first | refine .inl ⟨_, _, ⟨c, rfl, by first | exact .inl rfl | exact .inl trivial | exact .inr ⟨rfl, fun r hr => by rw [List.mem_singleton.1 hr]; exact flat_map (fun _ => rfl) _⟩ | (simp [FlatRows, noSl, noSlL]; done)⟩, hK _ _ ?_⟩ | refine .inl ⟨_, _, ⟨toSegment_own s hl, rfl, by first | exact .inl rfl | exact .inl trivial | exact .inr ⟨rfl, fun r hr => by rw [List.mem_singleton.1 hr]; exact flat_map (fun _ => rfl) _⟩ | (simp [FlatRows, noSl, noSlL]; done)⟩, hK _ _ ?_⟩ | refine .inl ⟨_, _, ⟨toSegment_ro s hl, rfl, by first | exact .inl rfl | exact .inl trivial | exact .inr ⟨rfl, fun r hr => by rw [List.mem_singleton.1 hr]; exact flat_map (fun _ => rfl) _⟩ | (simp [FlatRows, noSl, noSlL]; done)⟩, hK _ _ ?_⟩ | refine .inl ⟨_, _, ⟨cs, rfl, by first | exact .inl rfl | exact .inl trivial | exact .inr ⟨rfl, fun r hr => by rw [List.mem_singleton.1 hr]; exact flat_map (fun _ => rfl) _⟩ | (simp [FlatRows, noSl, noSlL]; done)⟩, hK _ _ ?_⟩ | refine .inl ⟨_, _, ⟨co, rfl, by first | exact .inl rfl | exact .inl trivial | exact .inr ⟨rfl, fun r hr => by rw [List.mem_singleton.1 hr]; exact flat_map (fun _ => rfl) _⟩ | (simp [FlatRows, noSl, noSlL]; done)⟩, hK _ _ ?_⟩ | refine .inl ⟨_, _, ⟨eqSegment_ok s s hl, rfl, by first | exact .inl rfl | exact .inl trivial | exact .inr ⟨rfl, fun r hr => by rw [List.mem_singleton.1 hr]; exact flat_map (fun _ => rfl) _⟩ | (simp [FlatRows, noSl, noSlL]; done)⟩, hK _ _ ?_⟩ | refine .inl ⟨_, _, ⟨eqHopS_ok g g hg, rfl, by first | exact .inl rfl | exact .inl trivial | exact .inr ⟨rfl, fun r hr => by rw [List.mem_singleton.1 hr]; exact flat_map (fun _ => rfl) _⟩ | (simp [FlatRows, noSl, noSlL]; done)⟩, hK _ _ ?_⟩ | refine .inl ⟨_, _, ⟨heldHopS_ok g.length 1 (by omega) (by omega), rfl, by first | exact .inl rfl | exact .inl trivial | exact .inr ⟨rfl, fun r hr => by rw [List.mem_singleton.1 hr]; exact flat_map (fun _ => rfl) _⟩ | (simp [FlatRows, noSl, noSlL]; done)⟩, hK _ _ ?_⟩); clear hK KK; simp only [addS, addM, ren, renL, rid, scr, scrL, Ent.scr, Nat.reduceMul, Nat.reduceAdd, Nat.reduceEqDiff, reduceIte, bA]) | ((with_reducible first | refine ⟨_, ⟨c, rfl, rfl, by first | exact .inl rfl | exact .inl trivial | exact .inr ⟨rfl, fun r hr => by rw [List.mem_singleton.1 hr]; exact flat_map (fun _ => rfl) _⟩ | (simp [FlatRows, noSl, noSlL]; done)⟩, hK _ ?_⟩ | refine ⟨_, ⟨toSegment_own s hl, rfl, rfl, by first | exact .inl rfl | exact .inl trivial | exact .inr ⟨rfl, fun r hr => by rw [List.mem_singleton.1 hr]; exact flat_map (fun _ => rfl) _⟩ | (simp [FlatRows, noSl, noSlL]; done)⟩, hK _ ?_⟩ | refine ⟨_, ⟨toSegment_ro s hl, rfl, rfl, by first | exact .inl rfl | exact .inl trivial | exact .inr ⟨rfl, fun r hr => by rw [List.mem_singleton.1 hr]; exact flat_map (fun _ => rfl) _⟩ | (simp [FlatRows, noSl, noSlL]; done)⟩, hK _ ?_⟩ | refine ⟨_, ⟨cs, rfl, rfl, by first | exact .inl rfl | exact .inl trivial | exact .inr ⟨rfl, fun r hr => by rw [List.mem_singleton.1 hr]; exact flat_map (fun _ => rfl) _⟩ | (simp [FlatRows, noSl, noSlL]; done)⟩, hK _ ?_⟩ | refine ⟨_, ⟨co, rfl, rfl, by first | exact .inl rfl | exact .inl trivial | exact .inr ⟨rfl, fun r hr => by rw [List.mem_singleton.1 hr]; exact flat_map (fun _ => rfl) _⟩ | (simp [FlatRows, noSl, noSlL]; done)⟩, hK _ ?_⟩ | refine ⟨_, ⟨eqSegment_ok s s hl, rfl, rfl, by first | exact .inl rfl | exact .inl trivial | exact .inr ⟨rfl, fun r hr => by rw [List.mem_singleton.1 hr]; exact flat_map (fun _ => rfl) _⟩ | (simp [FlatRows, noSl, noSlL]; done)⟩, hK _ ?_⟩ | refine ⟨_, ⟨eqHopS_ok g g hg, rfl, rfl, by first | exact .inl rfl | exact .inl trivial | exact .inr ⟨rfl, fun r hr => by rw [List.mem_singleton.1 hr]; exact flat_map (fun _ => rfl) _⟩ | (simp [FlatRows, noSl, noSlL]; done)⟩, hK _ ?_⟩ | refine ⟨_, ⟨heldHopS_ok g.length 1 (by omega) (by omega), rfl, rfl, by first | exact .inl rfl | exact .inl trivial | exact .inr ⟨rfl, fun r hr => by rw [List.mem_singleton.1 hr]; exact flat_map (fun _ => rfl) _⟩ | (simp [FlatRows, noSl, noSlL]; done)⟩, hK _ ?_⟩); clear hK KK; simp only [upd_mk]) | ((with_reducible first | refine .inr (markSegment_at s 1 (by omega) (by omega) (by simp only [bA, Nat.reduceEqDiff, reduceIte] <;> done) (hK _ _ ?_)) | refine .inr (markHopS_at g 1 (by omega) (by omega) (by simp only [bA, Nat.reduceEqDiff, reduceIte] <;> done) (hK _ _ ?_))); clear hK KK; simp only [addS, addM, ren, renL, rid, scr, scrL, Ent.scr, Nat.reduceMul, Nat.reduceAdd, Nat.reduceEqDiff, reduceIte, bA]) | (refine ⟨by first | exact eq_hop, hK _ _ ?_⟩; clear hK KK) | (refine ⟨by first | exact eq_hop, hK _ ?_⟩; clear hK KK; simp only [upd_mk]) | ((repeat refine And.intro (by first | omega | (simp; done)) ?_); first | (refine hK _ _ ?_; clear hK KK) | (refine hK _ ?_; clear hK KK; try simp only [upd_mk])))
      | ((with_reducible first | refine o_nil (hT _ _ ?_) | refine h_nil (hT _ ?_)); clear hT KT)
      | (with_reducible first | refine ht_nil ?_ | refine dq_succ ?_ | refine dq_f ?_ | refine dq_t ?_)
    
      | ((first | refine o_guard _ rfl fun AA BB hA hB => ?_ | refine h_guard _ rfl fun AA BB hA hB => ?_ | refine ht_guard _ rfl fun AA BB hA hB => ?_ | with_reducible refine t_cond fun AA BB hA hB => ?_); simp only [bA, ev, cD, Nat.reduceEqDiff, reduceIte, e1, e3, e4, e5]; first | ((with_reducible first | refine g_yT (hA ?_) | refine g_nF (hB ?_) | refine g_yF (hA ?_) | refine g_nT (hB ?_) | refine g_nov (hB ?_) | refine c_T (hA ?_) | refine c_F (hB ?_)); clear hA hB AA BB) | ((with_reducible first | refine g_sT (fun hb => hA ?_) (fun hb => hB ?_) | refine g_sF (fun hb => hA ?_) (fun hb => hB ?_) | refine c_s (fun hb => hA ?_) (fun hb => hB ?_)) <;> clear hA hB AA BB <;> (try simp only [hb, decide_true, decide_false]) <;> (try (exfalso; first | (simp at hb; done) | (simp at hb; omega)))))
      | (with_reducible refine skip_some (by decide) ?_; simp only [upd_mk]))
    all_goals (refine (fin_closed ?_).1; simp only [resQ, packD, callQ, viewL, view, noFsL, noFs, intsOf, Option.map_some, stp, hv, qv, ev, cD, scr, scrL, Ent.scr, flat, one, binQ, ldQ, storeQ, lay, Nat.reduceLT, Nat.reduceLeDiff, Nat.reduceAdd, Nat.reduceEqDiff, Nat.reduceMul, Nat.reduceSub, reduceIte, reduceCtorEq, fillQ, bne_iff_ne, Nat.reduceBNe, Nat.reduceBEq, rowsOf, cloL, clo, exists_eq_left', exists_and_left, appendQ, partsQ, Int.cast_ofNat_Int, Int.reduceBEq, Int.reduceBNe, Int.reduceLT, Int.reduceLE, Int.reduceEq, Int.reduceNe, Int.reduceAdd, Int.reduceSub, Int.reduceNeg, Int.reduceToNat, decide_true, decide_false, ne_eq, not_false_eq_true, true_and, and_true, Nat.add_zero, Nat.zero_add, Nat.not_lt_zero, Bool.not_true, Bool.not_false, Int.le_refl, bA, bB, ti3, ti38, ti43, hopRow, polRow, segRow, intRow, rowLen_ints, rowLen_nil, rowLen_cons, rowLen_append, List.length_append, byteRow, rowLen_bytes, bytesOf_map, bytesOf_cons, bytesOf_one, rowLen_strs, asRow, lkRow, tpRow, rowLen_hops, rowLen_ases, rowLen_links, bcRow, rowLen_bcs, u8Row, intRow])
    all_goals simp_all
  · have c := szSegment_ok s 1048576 (by omega) (by omega)
    rw [if_pos (by omega)] at c
    refine acall_mk Try.func5 rfl Try.ntmps5 Try.results5 (by kernel_rfl) (by simp) ?_
    simp only [args, Nat.zero_add, Nat.reduceAdd]
    repeat' (first
      | (with_reducible first | refine t_seq ?_ | refine t_block ?_ | refine Tr.skip ?_ | refine Tr.ret ?_ | refine Tr.exit ?_ | refine k_seq ?_ | refine k_seqR ?_ | refine k_seqX ?_ | refine k_blk ?_ | refine k_blkR ?_ | refine k_blkX ?_ | refine k_rndX ?_ | refine k_rndR ?_ | refine t_region fun KT hT => ?_)
      | (with_reducible first | refine t_draw (by kernel_rfl) (by kernel_rfl) fun KT hT => ?_)
      | refine k_blkY (by decide) ?_
          | ((with_reducible first | refine o_plain fun KK hK => ?_ | refine h_plain (by decide) fun KK hK => ?_ | refine h_none fun KK hK => ?_ | refine ht_plain (by decide) fun KK hK => ?_ | refine x_plain (by decide) rfl fun KK hK => ?_ | refine xt_plain (by decide) rfl fun KK hK => ?_); simp only [stp, hv, qv, ev, cD, scr, scrL, Ent.scr, flat, one, binQ, ldQ, storeQ, lay, Nat.reduceLT, Nat.reduceLeDiff, Nat.reduceAdd, Nat.reduceEqDiff, Nat.reduceMul, Nat.reduceSub, reduceIte, reduceCtorEq, fillQ, bne_iff_ne, Nat.reduceBNe, Nat.reduceBEq, rowsOf, cloL, clo, exists_eq_left', exists_and_left, appendQ, partsQ, Int.cast_ofNat_Int, Int.reduceBEq, Int.reduceBNe, Int.reduceLT, Int.reduceLE, Int.reduceEq, Int.reduceNe, Int.reduceAdd, Int.reduceSub, Int.reduceNeg, Int.reduceToNat, decide_true, decide_false, ne_eq, not_false_eq_true, true_and, and_true, Nat.add_zero, Nat.zero_add, Nat.not_lt_zero, Bool.not_true, Bool.not_false, Int.le_refl, bA, bB, callQ, viewL, view, noFsL, noFs, intsOf, Option.map_some, ti3, ti38, ti43, hopRow, polRow, segRow, intRow, rowLen_ints, rowLen_nil, rowLen_cons, rowLen_append, List.length_append, byteRow, rowLen_bytes, bytesOf_map, bytesOf_cons, bytesOf_one, rowLen_strs, asRow, lkRow, tpRow, rowLen_hops, rowLen_ases, rowLen_links, bcRow, rowLen_bcs, u8Row, intRow]; first | (refine hK _ _ ?_; clear hK KK) | (refine hK _ ?_; clear hK KK; try simp only [upd_mk]) | ((with_reducible first | refine .inl ⟨_, _, ⟨c, rfl, by first | exact .inl rfl | exact .inl trivial | exact .inr ⟨rfl, fun r hr => by rw [List.mem_singleton.1 hr]; exact flat_map (fun _ => rfl) _⟩ | (simp [FlatRows, noSl, noSlL]; done)⟩, hK _ _ ?_⟩); clear hK KK; simp only [addS, addM, ren, renL, rid, scr, scrL, Ent.scr, Nat.reduceMul, Nat.reduceAdd, Nat.reduceEqDiff, reduceIte, bA]) | ((with_reducible first | refine ⟨_, ⟨c, rfl, rfl, by first | exact .inl rfl | exact .inl trivial | exact .inr ⟨rfl, fun r hr => by rw [List.mem_singleton.1 hr]; exact flat_map (fun _ => rfl) _⟩ | (simp [FlatRows, noSl, noSlL]; done)⟩, hK _ ?_⟩); clear hK KK; simp only [upd_mk]) | (refine ⟨by first | exact eq_hop, hK _ _ ?_⟩; clear hK KK) | (refine ⟨by first | exact eq_hop, hK _ ?_⟩; clear hK KK; simp only [upd_mk]) | ((repeat refine And.intro (by first | omega | (simp; done)) ?_); first | (refine hK _ _ ?_; clear hK KK) | (refine hK _ ?_; clear hK KK; try simp only [upd_mk])))
      | ((with_reducible first | refine o_nil (hT _ _ ?_) | refine h_nil (hT _ ?_)); clear hT KT)
      | (with_reducible first | refine ht_nil ?_ | refine dq_succ ?_ | refine dq_f ?_ | refine dq_t ?_)
    
      | ((first | refine o_guard _ rfl fun AA BB hA hB => ?_ | refine h_guard _ rfl fun AA BB hA hB => ?_ | refine ht_guard _ rfl fun AA BB hA hB => ?_ | with_reducible refine t_cond fun AA BB hA hB => ?_); simp only [bA, ev, cD, Nat.reduceEqDiff, reduceIte]; first | ((with_reducible first | refine g_yT (hA ?_) | refine g_nF (hB ?_) | refine g_yF (hA ?_) | refine g_nT (hB ?_) | refine g_nov (hB ?_) | refine c_T (hA ?_) | refine c_F (hB ?_)); clear hA hB AA BB) | ((with_reducible first | refine g_sT (fun hb => hA ?_) (fun hb => hB ?_) | refine g_sF (fun hb => hA ?_) (fun hb => hB ?_) | refine c_s (fun hb => hA ?_) (fun hb => hB ?_)) <;> clear hA hB AA BB <;> (try simp only [hb, decide_true, decide_false]) <;> (try (exfalso; first | (simp at hb; done) | (simp at hb; omega)))))
      | (with_reducible refine skip_some (by decide) ?_; simp only [upd_mk]))
    all_goals (refine (fin_closed ?_).1; simp only [resQ, packD, callQ, viewL, view, noFsL, noFs, intsOf, Option.map_some, stp, hv, qv, ev, cD, scr, scrL, Ent.scr, flat, one, binQ, ldQ, storeQ, lay, Nat.reduceLT, Nat.reduceLeDiff, Nat.reduceAdd, Nat.reduceEqDiff, Nat.reduceMul, Nat.reduceSub, reduceIte, reduceCtorEq, fillQ, bne_iff_ne, Nat.reduceBNe, Nat.reduceBEq, rowsOf, cloL, clo, exists_eq_left', exists_and_left, appendQ, partsQ, Int.cast_ofNat_Int, Int.reduceBEq, Int.reduceBNe, Int.reduceLT, Int.reduceLE, Int.reduceEq, Int.reduceNe, Int.reduceAdd, Int.reduceSub, Int.reduceNeg, Int.reduceToNat, decide_true, decide_false, ne_eq, not_false_eq_true, true_and, and_true, Nat.add_zero, Nat.zero_add, Nat.not_lt_zero, Bool.not_true, Bool.not_false, Int.le_refl, bA, bB, ti3, ti38, ti43, hopRow, polRow, segRow, intRow, rowLen_ints, rowLen_nil, rowLen_cons, rowLen_append, List.length_append, byteRow, rowLen_bytes, bytesOf_map, bytesOf_cons, bytesOf_one, rowLen_strs, asRow, lkRow, tpRow, rowLen_hops, rowLen_ases, rowLen_links, bcRow, rowLen_bcs, u8Row, intRow])

namespace fnExactStripMACsDone
set_option maxRecDepth 100000 in
theorem lifted (os : Os) (started : os.Started) (H : Type) (enc : TypeId × Value → H) :
    ReturnsInHanded {} Try.checked os 5 .any (Rows.fnExactStripMACsSpec.pre6 enc Try.prog Try.f5 Rows.fnExactStripMACsRow.domain false) (Rows.fnExactStripMACsSpec.post enc Try.prog Try.f5 false true false false) := by
  refine returnsInHanded_of_change (C := Try.checked) own started (by kernel_rfl) Try.func5
    (ChangeSpec.witness6 (enc := enc) (C := Try.checked) false ⟨#[], #[.agg #[.int .i64 0, .int .i64 0, .slice none 0 0]], []⟩ 8 (by kernel_rfl) (by kernel_rfl) (by kernel_rfl) (by kernel_rfl)) ?_
  intro W base args ds gs before hval0 hW hcnd _
  have hval : ∀ (j : Nat) t v, Try.f5.params[j]? = some t → args[j]? = some v → Value.okWide Try.prog W .any base t v := hval0
  have hW' := hW
  obtain ⟨p, q, hA0, hV, rfl, hfz, hnd⟩ := hW
  have hA : DataW.TrodAll enc Try.prog W 0 (fun _ => true) true Try.f5.params.toList args.toList ds p := hA0
  rw [Try.params5] at hA hval
  obtain ⟨v0, vs0, d0, ds0, p0, q0, hargs, rfl, rfl, h0, r0⟩ := trodAll_cons hA
  obtain ⟨rfl, rfl, rfl⟩ := trodAll_nil r0
  obtain rfl : args = #[v0] := by cases args; simp_all
  obtain ⟨rfl, rfl⟩ := trodVars_none hV
  have lt0 : ∀ x ∈ p0, x.block < W.heap.size := by obtain ⟨m, hm⟩ := h0; exact DataW.trod_lt m _ _ _ hm
  obtain ⟨x0, i0, e0⟩ := arg_struct 8 Try.underlying38 ct38 (hval 0 38 v0 rfl rfl) h0
  clear hA0 hval0
  refine (law_calls (fnExactStripMACs_law i0) (vs := [v0]) (by simp only [RcL]; exact ⟨v0, _, rfl, e0, rfl⟩)).mono fun e W' ⟨he, bel⟩ => ?_
  subst he
  exact ⟨_, rfl, _, _, _, [], _, [], hW', trodAll_mk1 (shut_bool Try.underlying4 _), (trodAll_cons_mk (Below.trod laidOut (by kernel_rfl) (of_decide_eq_true (by kernel_rfl)) h0 bel lt0) trodAll_mk0), rfl, bel.frame _, fun h => by cases h⟩

theorem over : Rows.fnExactStripMACsRow.holds Try.pinned (OpenSpec.ofChange Rows.fnExactStripMACsSpec) :=
  OpenClaim.holds_of_wide 5 Try.f5 rfl rfl rfl rfl rfl rfl rfl ⟨rfl, rfl, rfl, rfl, rfl⟩ rfl rfl rfl rfl rfl (by kernel_rfl) Try.func5 (by kernel_rfl)
    (of_decide_eq_true (by kernel_rfl)) (by unfold Func.isWrapper; first | (rw [if_pos (by decide +kernel)]; kernel_rfl) | (rw [if_neg (by decide +kernel)]; exact ⟨rfl, rfl⟩))
    (fun os started H enc _ => lifted os started H enc)

theorem proved : Rows.FnExactStripMACsSaid := over
end fnExactStripMACsDone

end Go.Proofs.Ytbinljboomkkdaa
