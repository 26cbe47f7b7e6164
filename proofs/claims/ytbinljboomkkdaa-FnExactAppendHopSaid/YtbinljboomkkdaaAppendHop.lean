/- The law FnExactAppendHop. -/
import Derived.Test.YtbinljboomkkdaaRows
import Derived.WalkKit
import Derived.ProofKit
import Derived.OpenShut
import Derived.ShutString
import Derived.ChangeOld
import Derived.Below
import Derived.Test.YtbinljboomkkdaaLk4
import Derived.Test.YtbinljboomkkdaaLq3
import Derived.Test.YtbinljboomkkdaaLr1
import Derived.Test.YtbinljboomkkdaaLr2
namespace Go.Proofs.Ytbinljboomkkdaa
open Go.ChangeShapes Go.WideShapes Go.ChangeAt Go.RowKit
open Go.ChangeMaps (open_string shut_string)
set_option linter.unusedVariables false
theorem own : ownKnob Try.prog.godebug = none := by kernel_rfl
theorem laidOut : laidOutB Try.prog = true := by kernel_rfl
set_option linter.unusedSimpArgs false
set_option maxRecDepth 100000

theorem fnExactAppendHop_law {x0 : D} (i0 : IsC (.slice [.int .u8]) x0) {x1 : List D} (i1 : IsL [.int .i64, .int .i64, .int .i64, .int .i64, .int .i64] x1) : ACall Try.prog 3 [x0, .agg x1] (.bool true) [] := by
  obtain ⟨b, rfl, hm⟩ := isBytes i0
  obtain ⟨h, rfl⟩ := isHop i1
  unfold maxLen at hm
  by_cases hl : b.length ≤ 1048576
  · have e0 : decide ((1048576 : Int) < (b.length : Int)) = false := decide_eq_false (by omega)
    have hen := encHop_len h
    have hg : (b ++ encHop h).length ≤ 1048606 := by simp only [List.length_append]; omega
    have cs := (appHop_s b h (by omega)).ro
    have ci := (appHop_i b h (by omega)).ro
    simp only [view, viewL, tabOf, List.getElem?_cons_zero, List.getElem?_cons_succ, Option.map_some] at cs ci
    have co := appHop_i b h (by omega)
    generalize b ++ encHop h = g at *
    have e1 : decide ((1 : Int) + b.length < 0) = false := decide_eq_false (by omega)
    have e2 : decide ((1 : Int) + g.length < 0) = false := decide_eq_false (by omega)
    have e3 : decide ((1 : Int) + 1 * g.length < 0) = false := decide_eq_false (by omega)
    have e4 : ((1 : Int) + 1 * g.length != 1 + g.length) = false := by rw [Int.one_mul]; simp
    refine acall_mk Try.func3 rfl Try.ntmps3 Try.results3 (by kernel_rfl) (by simp) ?_
    simp only [args, Nat.zero_add, Nat.reduceAdd]
    repeat' (first
      | (with_reducible first | refine t_seq ?_ | refine t_block ?_ | refine Tr.skip ?_ | refine Tr.ret ?_ | refine Tr.exit ?_ | refine k_seq ?_ | refine k_seqR ?_ | refine k_seqX ?_ | refine k_blk ?_ | refine k_blkR ?_ | refine k_blkX ?_ | refine k_rndX ?_ | refine k_rndR ?_ | refine t_region fun KT hT => ?_)
      | (with_reducible first | refine t_draw (by kernel_rfl) (by kernel_rfl) fun KT hT => ?_)
      | refine k_blkY (by decide) ?_
          | ((with_reducible first | refine o_plain fun KK hK => ?_ | refine h_plain (by decide) fun KK hK => ?_ | refine h_none fun KK hK => ?_ | refine ht_plain (by decide) fun KK hK => ?_ | refine x_plain (by decide) rfl fun KK hK => ?_ | refine xt_plain (by decide) rfl fun KK hK => ?_); simp only [stp, hv, qv, ev, cD, scr, scrL, Ent.scr, flat, one, binQ, ldQ, storeQ, lay, Nat.reduceLT, Nat.reduceLeDiff, Nat.reduceAdd, Nat.reduceEqDiff, Nat.reduceMul, Nat.reduceSub, reduceIte, reduceCtorEq, fillQ, bne_iff_ne, Nat.reduceBNe, Nat.reduceBEq, rowsOf, cloL, clo, exists_eq_left', exists_and_left, appendQ, partsQ, Int.cast_ofNat_Int, Int.reduceBEq, Int.reduceBNe, Int.reduceLT, Int.reduceLE, Int.reduceEq, Int.reduceNe, Int.reduceAdd, Int.reduceSub, Int.reduceNeg, Int.reduceToNat, decide_true, decide_false, ne_eq, not_false_eq_true, true_and, and_true, Nat.add_zero, Nat.zero_add, Nat.not_lt_zero, Bool.not_true, Bool.not_false, Int.le_refl, bA, bB, callQ, viewL, view, noFsL, noFs, intsOf, Option.map_some, ti3, ti5, ti22, ti24, e0, e1, e2, e3, e4, hopRow, polRow, segRow, intRow, rowLen_ints, rowLen_nil, rowLen_cons, rowLen_append, List.length_append, byteRow, rowLen_bytes, bytesOf_map, bytesOf_cons, bytesOf_one, rowLen_strs, asRow, lkRow, tpRow, rowLen_hops, rowLen_ases, rowLen_links, bcRow, rowLen_bcs, u8Row, intRow]; first | (refine hK _ _ ?_; clear hK KK) | (refine hK _ ?_; clear hK KK; try simp only [upd_mk]) | ((with_reducible first | refine .inl ⟨_, _, ⟨toByteS_own b hl, rfl, by first | exact .inl rfl | exact .inl trivial | exact .inr ⟨rfl, fun r hr => by rw [List.mem_singleton.1 hr]; exact flat_map (fun _ => rfl) _⟩ | (simp [FlatRows, noSl, noSlL]; done)⟩, hK _ _ ?_⟩ | refine .inl ⟨_, _, ⟨toByteS_ro b hl, rfl, by first | exact .inl rfl | exact .inl trivial | exact .inr ⟨rfl, fun r hr => by rw [List.mem_singleton.1 hr]; exact flat_map (fun _ => rfl) _⟩ | (simp [FlatRows, noSl, noSlL]; done)⟩, hK _ _ ?_⟩ | refine .inl ⟨_, _, ⟨toHop_ok _ _ _ _ _, rfl, by first | exact .inl rfl | exact .inl trivial | exact .inr ⟨rfl, fun r hr => by rw [List.mem_singleton.1 hr]; exact flat_map (fun _ => rfl) _⟩ | (simp [FlatRows, noSl, noSlL]; done)⟩, hK _ _ ?_⟩ | refine .inl ⟨_, _, ⟨cs, rfl, by first | exact .inl rfl | exact .inl trivial | exact .inr ⟨rfl, fun r hr => by rw [List.mem_singleton.1 hr]; exact flat_map (fun _ => rfl) _⟩ | (simp [FlatRows, noSl, noSlL]; done)⟩, hK _ _ ?_⟩ | refine .inl ⟨_, _, ⟨co, rfl, by first | exact .inl rfl | exact .inl trivial | exact .inr ⟨rfl, fun r hr => by rw [List.mem_singleton.1 hr]; exact flat_map (fun _ => rfl) _⟩ | (simp [FlatRows, noSl, noSlL]; done)⟩, hK _ _ ?_⟩ | refine .inl ⟨_, _, ⟨ci, rfl, by first | exact .inl rfl | exact .inl trivial | exact .inr ⟨rfl, fun r hr => by rw [List.mem_singleton.1 hr]; exact flat_map (fun _ => rfl) _⟩ | (simp [FlatRows, noSl, noSlL]; done)⟩, hK _ _ ?_⟩ | refine .inl ⟨_, _, ⟨eqByteS_ok g g (by omega), rfl, by first | exact .inl rfl | exact .inl trivial | exact .inr ⟨rfl, fun r hr => by rw [List.mem_singleton.1 hr]; exact flat_map (fun _ => rfl) _⟩ | (simp [FlatRows, noSl, noSlL]; done)⟩, hK _ _ ?_⟩ | refine .inl ⟨_, _, ⟨eqByteS_ok b b (by omega), rfl, by first | exact .inl rfl | exact .inl trivial | exact .inr ⟨rfl, fun r hr => by rw [List.mem_singleton.1 hr]; exact flat_map (fun _ => rfl) _⟩ | (simp [FlatRows, noSl, noSlL]; done)⟩, hK _ _ ?_⟩ | refine .inl ⟨_, _, ⟨heldByteS_ok g.length 1 (by omega) (by omega), rfl, by first | exact .inl rfl | exact .inl trivial | exact .inr ⟨rfl, fun r hr => by rw [List.mem_singleton.1 hr]; exact flat_map (fun _ => rfl) _⟩ | (simp [FlatRows, noSl, noSlL]; done)⟩, hK _ _ ?_⟩); clear hK KK; simp only [addS, addM, ren, renL, rid, scr, scrL, Ent.scr, Nat.reduceMul, Nat.reduceAdd, Nat.reduceEqDiff, reduceIte, bA]) | ((with_reducible first | refine ⟨_, ⟨toByteS_own b hl, rfl, rfl, by first | exact .inl rfl | exact .inl trivial | exact .inr ⟨rfl, fun r hr => by rw [List.mem_singleton.1 hr]; exact flat_map (fun _ => rfl) _⟩ | (simp [FlatRows, noSl, noSlL]; done)⟩, hK _ ?_⟩ | refine ⟨_, ⟨toByteS_ro b hl, rfl, rfl, by first | exact .inl rfl | exact .inl trivial | exact .inr ⟨rfl, fun r hr => by rw [List.mem_singleton.1 hr]; exact flat_map (fun _ => rfl) _⟩ | (simp [FlatRows, noSl, noSlL]; done)⟩, hK _ ?_⟩ | refine ⟨_, ⟨toHop_ok _ _ _ _ _, rfl, rfl, by first | exact .inl rfl | exact .inl trivial | exact .inr ⟨rfl, fun r hr => by rw [List.mem_singleton.1 hr]; exact flat_map (fun _ => rfl) _⟩ | (simp [FlatRows, noSl, noSlL]; done)⟩, hK _ ?_⟩ | refine ⟨_, ⟨cs, rfl, rfl, by first | exact .inl rfl | exact .inl trivial | exact .inr ⟨rfl, fun r hr => by rw [List.mem_singleton.1 hr]; exact flat_map (fun _ => rfl) _⟩ | (simp [FlatRows, noSl, noSlL]; done)⟩, hK _ ?_⟩ | refine ⟨_, ⟨co, rfl, rfl, by first | exact .inl rfl | exact .inl trivial | exact .inr ⟨rfl, fun r hr => by rw [List.mem_singleton.1 hr]; exact flat_map (fun _ => rfl) _⟩ | (simp [FlatRows, noSl, noSlL]; done)⟩, hK _ ?_⟩ | refine ⟨_, ⟨ci, rfl, rfl, by first | exact .inl rfl | exact .inl trivial | exact .inr ⟨rfl, fun r hr => by rw [List.mem_singleton.1 hr]; exact flat_map (fun _ => rfl) _⟩ | (simp [FlatRows, noSl, noSlL]; done)⟩, hK _ ?_⟩ | refine ⟨_, ⟨eqByteS_ok g g (by omega), rfl, rfl, by first | exact .inl rfl | exact .inl trivial | exact .inr ⟨rfl, fun r hr => by rw [List.mem_singleton.1 hr]; exact flat_map (fun _ => rfl) _⟩ | (simp [FlatRows, noSl, noSlL]; done)⟩, hK _ ?_⟩ | refine ⟨_, ⟨eqByteS_ok b b (by omega), rfl, rfl, by first | exact .inl rfl | exact .inl trivial | exact .inr ⟨rfl, fun r hr => by rw [List.mem_singleton.1 hr]; exact flat_map (fun _ => rfl) _⟩ | (simp [FlatRows, noSl, noSlL]; done)⟩, hK _ ?_⟩ | refine ⟨_, ⟨heldByteS_ok g.length 1 (by omega) (by omega), rfl, rfl, by first | exact .inl rfl | exact .inl trivial | exact .inr ⟨rfl, fun r hr => by rw [List.mem_singleton.1 hr]; exact flat_map (fun _ => rfl) _⟩ | (simp [FlatRows, noSl, noSlL]; done)⟩, hK _ ?_⟩); clear hK KK; simp only [upd_mk]) | ((first | refine .inr (markByteS_atB b 1 (by omega) (by omega) rfl (hK _ _ ?_)) | refine .inr (markByteS_atB g 1 (by omega) (by omega) rfl (hK _ _ ?_))); clear hK KK; simp only [addS, addM, ren, renL, rid, scr, scrL, Ent.scr, Nat.reduceMul, Nat.reduceAdd, Nat.reduceEqDiff, reduceIte, bA]) | (refine ⟨by first | exact eq_hop, hK _ _ ?_⟩; clear hK KK) | (refine ⟨by first | exact eq_hop, hK _ ?_⟩; clear hK KK; simp only [upd_mk]) | ((repeat refine And.intro (by first | omega | (simp; done)) ?_); first | (refine hK _ _ ?_; clear hK KK) | (refine hK _ ?_; clear hK KK; try simp only [upd_mk])))
      | ((with_reducible first | refine o_nil (hT _ _ ?_) | refine h_nil (hT _ ?_)); clear hT KT)
      | (with_reducible first | refine ht_nil ?_ | refine dq_succ ?_ | refine dq_f ?_ | refine dq_t ?_)
    
      | ((first | refine o_guard _ rfl fun AA BB hA hB => ?_ | refine h_guard _ rfl fun AA BB hA hB => ?_ | refine ht_guard _ rfl fun AA BB hA hB => ?_ | with_reducible refine t_cond fun AA BB hA hB => ?_); simp only [bA, ev, cD, Nat.reduceEqDiff, reduceIte, e0, e1, e2, e3, e4]; first | ((with_reducible first | refine g_yT (hA ?_) | refine g_nF (hB ?_) | refine g_yF (hA ?_) | refine g_nT (hB ?_) | refine g_nov (hB ?_) | refine c_T (hA ?_) | refine c_F (hB ?_)); clear hA hB AA BB) | ((with_reducible first | refine g_sT (fun hb => hA ?_) (fun hb => hB ?_) | refine g_sF (fun hb => hA ?_) (fun hb => hB ?_) | refine c_s (fun hb => hA ?_) (fun hb => hB ?_)) <;> clear hA hB AA BB <;> (try simp only [hb, decide_true, decide_false]) <;> (try (exfalso; first | (simp at hb; done) | (simp at hb; omega)))))
      | (with_reducible refine skip_some (by decide) ?_; simp only [upd_mk]))
    all_goals (refine (fin_closed ?_).1; simp only [resQ, packD, callQ, viewL, view, noFsL, noFs, intsOf, Option.map_some, stp, hv, qv, ev, cD, scr, scrL, Ent.scr, flat, one, binQ, ldQ, storeQ, lay, Nat.reduceLT, Nat.reduceLeDiff, Nat.reduceAdd, Nat.reduceEqDiff, Nat.reduceMul, Nat.reduceSub, reduceIte, reduceCtorEq, fillQ, bne_iff_ne, Nat.reduceBNe, Nat.reduceBEq, rowsOf, cloL, clo, exists_eq_left', exists_and_left, appendQ, partsQ, Int.cast_ofNat_Int, Int.reduceBEq, Int.reduceBNe, Int.reduceLT, Int.reduceLE, Int.reduceEq, Int.reduceNe, Int.reduceAdd, Int.reduceSub, Int.reduceNeg, Int.reduceToNat, decide_true, decide_false, ne_eq, not_false_eq_true, true_and, and_true, Nat.add_zero, Nat.zero_add, Nat.not_lt_zero, Bool.not_true, Bool.not_false, Int.le_refl, bA, bB, ti3, ti5, ti22, ti24, hopRow, polRow, segRow, intRow, rowLen_ints, rowLen_nil, rowLen_cons, rowLen_append, List.length_append, byteRow, rowLen_bytes, bytesOf_map, bytesOf_cons, bytesOf_one, rowLen_strs, asRow, lkRow, tpRow, rowLen_hops, rowLen_ases, rowLen_links, bcRow, rowLen_bcs, u8Row, intRow])
    all_goals simp_all
  · have e0 : decide ((1048576 : Int) < (b.length : Int)) = true := decide_eq_true (by omega)
    refine acall_mk Try.func3 rfl Try.ntmps3 Try.results3 (by kernel_rfl) (by simp) ?_
    simp only [args, Nat.zero_add, Nat.reduceAdd]
    repeat' (first
      | (with_reducible first | refine t_seq ?_ | refine t_block ?_ | refine Tr.skip ?_ | refine Tr.ret ?_ | refine Tr.exit ?_ | refine k_seq ?_ | refine k_seqR ?_ | refine k_seqX ?_ | refine k_blk ?_ | refine k_blkR ?_ | refine k_blkX ?_ | refine k_rndX ?_ | refine k_rndR ?_ | refine t_region fun KT hT => ?_)
      | (with_reducible first | refine t_draw (by kernel_rfl) (by kernel_rfl) fun KT hT => ?_)
      | refine k_blkY (by decide) ?_
          | ((with_reducible first | refine o_plain fun KK hK => ?_ | refine h_plain (by decide) fun KK hK => ?_ | refine h_none fun KK hK => ?_ | refine ht_plain (by decide) fun KK hK => ?_ | refine x_plain (by decide) rfl fun KK hK => ?_ | refine xt_plain (by decide) rfl fun KK hK => ?_); simp only [stp, hv, qv, ev, cD, scr, scrL, Ent.scr, flat, one, binQ, ldQ, storeQ, lay, Nat.reduceLT, Nat.reduceLeDiff, Nat.reduceAdd, Nat.reduceEqDiff, Nat.reduceMul, Nat.reduceSub, reduceIte, reduceCtorEq, fillQ, bne_iff_ne, Nat.reduceBNe, Nat.reduceBEq, rowsOf, cloL, clo, exists_eq_left', exists_and_left, appendQ, partsQ, Int.cast_ofNat_Int, Int.reduceBEq, Int.reduceBNe, Int.reduceLT, Int.reduceLE, Int.reduceEq, Int.reduceNe, Int.reduceAdd, Int.reduceSub, Int.reduceNeg, Int.reduceToNat, decide_true, decide_false, ne_eq, not_false_eq_true, true_and, and_true, Nat.add_zero, Nat.zero_add, Nat.not_lt_zero, Bool.not_true, Bool.not_false, Int.le_refl, bA, bB, callQ, viewL, view, noFsL, noFs, intsOf, Option.map_some, ti3, ti5, ti22, ti24, e0, hopRow, polRow, segRow, intRow, rowLen_ints, rowLen_nil, rowLen_cons, rowLen_append, List.length_append, byteRow, rowLen_bytes, bytesOf_map, bytesOf_cons, bytesOf_one, rowLen_strs, asRow, lkRow, tpRow, rowLen_hops, rowLen_ases, rowLen_links, bcRow, rowLen_bcs, u8Row, intRow]; first | (refine hK _ _ ?_; clear hK KK) | (refine hK _ ?_; clear hK KK; try simp only [upd_mk]) | (refine ⟨by first | exact eq_hop, hK _ _ ?_⟩; clear hK KK) | (refine ⟨by first | exact eq_hop, hK _ ?_⟩; clear hK KK; simp only [upd_mk]) | ((repeat refine And.intro (by first | omega | (simp; done)) ?_); first | (refine hK _ _ ?_; clear hK KK) | (refine hK _ ?_; clear hK KK; try simp only [upd_mk])))
      | ((with_reducible first | refine o_nil (hT _ _ ?_) | refine h_nil (hT _ ?_)); clear hT KT)
      | (with_reducible first | refine ht_nil ?_ | refine dq_succ ?_ | refine dq_f ?_ | refine dq_t ?_)
    
      | ((first | refine o_guard _ rfl fun AA BB hA hB => ?_ | refine h_guard _ rfl fun AA BB hA hB => ?_ | refine ht_guard _ rfl fun AA BB hA hB => ?_ | with_reducible refine t_cond fun AA BB hA hB => ?_); simp only [bA, ev, cD, Nat.reduceEqDiff, reduceIte, e0]; first | ((with_reducible first | refine g_yT (hA ?_) | refine g_nF (hB ?_) | refine g_yF (hA ?_) | refine g_nT (hB ?_) | refine g_nov (hB ?_) | refine c_T (hA ?_) | refine c_F (hB ?_)); clear hA hB AA BB) | ((with_reducible first | refine g_sT (fun hb => hA ?_) (fun hb => hB ?_) | refine g_sF (fun hb => hA ?_) (fun hb => hB ?_) | refine c_s (fun hb => hA ?_) (fun hb => hB ?_)) <;> clear hA hB AA BB <;> (try simp only [hb, decide_true, decide_false]) <;> (try (exfalso; first | (simp at hb; done) | (simp at hb; omega)))))
      | (with_reducible refine skip_some (by decide) ?_; simp only [upd_mk]))
    all_goals (refine (fin_closed ?_).1; simp only [resQ, packD, callQ, viewL, view, noFsL, noFs, intsOf, Option.map_some, stp, hv, qv, ev, cD, scr, scrL, Ent.scr, flat, one, binQ, ldQ, storeQ, lay, Nat.reduceLT, Nat.reduceLeDiff, Nat.reduceAdd, Nat.reduceEqDiff, Nat.reduceMul, Nat.reduceSub, reduceIte, reduceCtorEq, fillQ, bne_iff_ne, Nat.reduceBNe, Nat.reduceBEq, rowsOf, cloL, clo, exists_eq_left', exists_and_left, appendQ, partsQ, Int.cast_ofNat_Int, Int.reduceBEq, Int.reduceBNe, Int.reduceLT, Int.reduceLE, Int.reduceEq, Int.reduceNe, Int.reduceAdd, Int.reduceSub, Int.reduceNeg, Int.reduceToNat, decide_true, decide_false, ne_eq, not_false_eq_true, true_and, and_true, Nat.add_zero, Nat.zero_add, Nat.not_lt_zero, Bool.not_true, Bool.not_false, Int.le_refl, bA, bB, ti3, ti5, ti22, ti24, hopRow, polRow, segRow, intRow, rowLen_ints, rowLen_nil, rowLen_cons, rowLen_append, List.length_append, byteRow, rowLen_bytes, bytesOf_map, bytesOf_cons, bytesOf_one, rowLen_strs, asRow, lkRow, tpRow, rowLen_hops, rowLen_ases, rowLen_links, bcRow, rowLen_bcs, u8Row, intRow])

namespace fnExactAppendHopDone
set_option maxRecDepth 100000 in
theorem lifted (os : Os) (started : os.Started) (H : Type) (enc : TypeId × Value → H) :
    ReturnsInHanded {} Try.checked os 3 .any (Rows.fnExactAppendHopSpec.pre6 enc Try.prog Try.f3 Rows.fnExactAppendHopRow.domain false) (Rows.fnExactAppendHopSpec.post enc Try.prog Try.f3 false true false false) := by
  refine returnsInHanded_of_change (C := Try.checked) own started (by kernel_rfl) Try.func3
    (ChangeSpec.witness6 (enc := enc) (C := Try.checked) false ⟨#[], #[.slice none 0 0, .agg #[.int .i64 0, .int .i64 0, .int .i64 0, .int .i64 0, .int .i64 0]], []⟩ 8 (by kernel_rfl) (by kernel_rfl) (by kernel_rfl) (by kernel_rfl)) ?_
  intro W base args ds gs before hval0 hW hcnd _
  have hval : ∀ (j : Nat) t v, Try.f3.params[j]? = some t → args[j]? = some v → Value.okWide Try.prog W .any base t v := hval0
  have hW' := hW
  obtain ⟨p, q, hA0, hV, rfl, hfz, hnd⟩ := hW
  have hA : DataW.TrodAll enc Try.prog W 0 (fun _ => true) true Try.f3.params.toList args.toList ds p := hA0
  rw [Try.params3] at hA hval
  obtain ⟨v0, vs0, d0, ds0, p0, q0, hargs, rfl, rfl, h0, r0⟩ := trodAll_cons hA
  obtain ⟨v1, vs1, d1, ds1, p1, q1, rfl, rfl, rfl, h1, r1⟩ := trodAll_cons r0
  obtain ⟨rfl, rfl, rfl⟩ := trodAll_nil r1
  obtain rfl : args = #[v0, v1] := by cases args; simp_all
  obtain ⟨rfl, rfl⟩ := trodVars_none hV
  have lt0 : ∀ x ∈ p0, x.block < W.heap.size := by obtain ⟨m, hm⟩ := h0; exact DataW.trod_lt m _ _ _ hm
  have hc0 : v0.cells = #[v0] := by obtain ⟨a, ln, cp, rfl⟩ := okWide_slice Try.underlying22 (hval 0 22 v0 rfl rfl); rfl
  obtain ⟨x0, i0, e0⟩ := arg_cell 8 ct22 hc0 h0
  have lt1 : ∀ x ∈ p1, x.block < W.heap.size := by obtain ⟨m, hm⟩ := h1; exact DataW.trod_lt m _ _ _ hm
  obtain ⟨x1, i1, e1⟩ := arg_struct 8 Try.underlying24 ct24 (hval 1 24 v1 rfl rfl) h1
  clear hA0 hval0
  refine (law_calls (fnExactAppendHop_law i0 i1) (vs := [v0, v1]) (by simp only [RcL]; exact ⟨v0, _, rfl, e0, ⟨v1, _, rfl, e1, rfl⟩⟩)).mono fun e W' ⟨he, bel⟩ => ?_
  subst he
  exact ⟨_, rfl, _, _, _, [], _, [], hW', trodAll_mk1 (shut_bool Try.underlying4 _), (trodAll_cons_mk (Below.trod laidOut (by kernel_rfl) (of_decide_eq_true (by kernel_rfl)) h0 bel lt0) (trodAll_cons_mk (Below.trod laidOut (by kernel_rfl) (of_decide_eq_true (by kernel_rfl)) h1 bel lt1) trodAll_mk0)), rfl, bel.frame _, fun h => by cases h⟩

theorem over : Rows.fnExactAppendHopRow.holds Try.pinned (OpenSpec.ofChange Rows.fnExactAppendHopSpec) :=
  OpenClaim.holds_of_wide 3 Try.f3 rfl rfl rfl rfl rfl rfl rfl ⟨rfl, rfl, rfl, rfl, rfl⟩ rfl rfl rfl rfl rfl (by kernel_rfl) Try.func3 (by kernel_rfl)
    (of_decide_eq_true (by kernel_rfl)) (by unfold Func.isWrapper; first | (rw [if_pos (by decide +kernel)]; kernel_rfl) | (rw [if_neg (by decide +kernel)]; exact ⟨rfl, rfl⟩))
    (fun os started H enc _ => lifted os started H enc)

theorem proved : Rows.FnExactAppendHopSaid := over
end fnExactAppendHopDone

end Go.Proofs.Ytbinljboomkkdaa
