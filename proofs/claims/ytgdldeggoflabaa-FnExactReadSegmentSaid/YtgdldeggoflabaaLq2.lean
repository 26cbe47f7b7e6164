/- The functions of this program, walked by the evaluator: part q, 2. -/
import Derived.Test.YtgdldeggoflabaaLq1
namespace Go.Proofs.Ytgdldeggoflabaa
open Go.RowKit
set_option linter.unusedSimpArgs false
set_option linter.unusedVariables false
set_option maxRecDepth 100000
set_option linter.defProp false
namespace GLq2
def gx := And.intro (@hopRow.eq_1) (And.intro (@polRow.eq_1) (And.intro (@segRow.eq_1) (And.intro (@intRow.eq_1) (And.intro (@rowLen_ints) (And.intro (@rowLen_nil) (And.intro (@rowLen_cons) (And.intro (@rowLen_append) (And.intro (@lenL_app) (And.intro (@byteRow.eq_1) (And.intro (@rowLen_bytes) (And.intro (@bytesOf_map) (And.intro (@bytesOf_cons) (And.intro (@bytesOf_one) (And.intro (@rowLen_strs) (And.intro (@asRow.eq_1) (And.intro (@lkRow.eq_1) (And.intro (@tpRow.eq_1) (And.intro (@rowLen_hops) (And.intro (@rowLen_ases) (And.intro (@rowLen_links) (And.intro (@bcRow.eq_1) (And.intro (@rowLen_bcs) (@u8Row.eq_1)))))))))))))))))))))))
end GLq2
open GLq2
theorem markLinkS_at {M : Tab} {σ : Slots} {d : Nat} {K : Slots → Tab → Prop} {id : Nat} (l : List Lk) (k : Int) (hk : 0 ≤ k) (hk' : k + 5 * l.length < 4611686018427387904) (hM : M id = some (.row (l.map lkRow)))
    (h : K (upd σ d (.int .i64 (k + 5 * l.length))) (upd M id (some (.row ((marks mkL 5 k l.length).map lkRow))))) : mcallQ Try.prog M σ d 89 [.fs id, .int .i64 k] K :=
  ⟨[id], [_], _, [_], [.fs 0, .int .i64 k], rfl, by simp, by simp [hM], markLinkS_ok l k hk hk', h⟩

set_option maxHeartbeats 2000000 in
theorem markASS_ok (l : List As) (k : Int) (hk : 0 ≤ k) (hk' : k + 3 * l.length < 4611686018427387904) : MCall Try.prog 88 [.fs 0, .int .i64 k] [l.map asRow] (.int .i64 (k + 3 * l.length)) [(marks mkA 3 k l.length).map asRow] := by
  refine mcall_mk Try.func88 rfl Try.ntmps88 Try.results88 (by kernel_rfl) (by simp) (by decide) rfl (by simp) rfl ?_ ?_ ?_
  rotate_left 2
  simp only [args, backL, back, pinIds, pinL, Nat.zero_add, Nat.reduceAdd, bB]
  · repeat' (first | with_reducible refine go ?_ | with_reducible refine t_region fun KT hT => ?_ | (refine gp fun KK hK => ?_; first | (refine hK _ _ ?_; clear hK KK) | (refine hK _ ?_; clear hK KK; try simp only [upd_mk]) | (refine ⟨by first | exact eq_hop, hK _ _ ?_⟩; clear hK KK) | (refine ⟨by first | exact eq_hop, hK _ (nz ?_)⟩; clear hK KK) | ((repeat refine And.intro (by first | omega | (rw [getD_map_lt (by omega)]; rfl) | (simp; first | done | omega)) ?_); first | (refine hK _ _ ?_; clear hK KK) | (refine hK _ ?_; clear hK KK; try simp only [upd_mk]))) | ((with_reducible first | refine o_nil (hT _ _ ?_) | refine h_nil (hT _ ?_)); clear hT KT) | ((first | refine gd fun AA BB hA hB => ?_ | refine tc fun AA BB hA hB => ?_); first | (refine go ?_; (first | refine hA ?_ | refine hB ?_); clear hA hB AA BB) | (refine go2 ?_ ?_ <;> intro hb <;> (first | refine hA ?_ | refine hB ?_) <;> clear hA hB AA BB <;> (try simp only [hb, decide_true, decide_false]) <;> (try (exfalso; first | (simp at hb; done) | (simp at hb; omega))))) | (with_reducible refine skS ?_; simp only [upd_mk]) | with_reducible refine tdr fun KT hT => ?_ | with_reducible refine bY ?_)
    refine t_loop (fun j : Nat => [(0, .fs 900), (1, .int .i64 (k + (3 : Int) * j)), (5, .int .i64 j)]) (fun j => [(900, .row (mixM asRow mkA 3 k l j))]) (fun j => j ≤ l.length) (fun j => l.length - j) 0 (imp_keep (by simp [Keep, mk]) (by simp [KeepT, mkT, mixM_zero]) rfl) (Nat.zero_le _) ?_
    intro j hj
    rcases Nat.lt_or_ge j l.length with h | h
    · have e1 : decide ((j : Int) < (l.length : Int)) = true := by simpa using h
      have e2 := mixM_get (f := asRow) (mk := mkA) (s := 3) (k := k) h
      have e3 := mixM_len (f := asRow) (mk := mkA) (s := 3) (k := k) hj
      have e4 := mixM_put (f := asRow) (mk := mkA) (s := 3) (k := k) h
      have w0 : IntKind.i64.wrap (k + (3 : Int) * j + 1) = k + (3 : Int) * j + 1 := wr64 (by omega) (by omega)
      have w1 : IntKind.i64.wrap (k + (3 : Int) * j + 1 + 1) = k + (3 : Int) * j + 1 + 1 := wr64 (by omega) (by omega)
      have w2 : IntKind.i64.wrap (k + (3 : Int) * j + 1 + 1 + 1) = k + (3 : Int) * j + 1 + 1 + 1 := wr64 (by omega) (by omega)
      (have fx := And.intro (@e1) (And.intro (@e2) (And.intro (@e3) (And.intro (@e4) (And.intro (@h) (And.intro (@w0) (And.intro (@w1) (And.intro (@w2) (And.intro (@lenL_set) (@setL_set)))))))))
       repeat' (first | with_reducible refine go ?_ | with_reducible refine t_region fun KT hT => ?_ | (refine gp fun KK hK => ?_; first | (refine hK _ _ ?_; clear hK KK) | (refine hK _ ?_; clear hK KK; try simp only [upd_mk]) | (refine ⟨by first | exact eq_hop, hK _ _ ?_⟩; clear hK KK) | (refine ⟨by first | exact eq_hop, hK _ (nz ?_)⟩; clear hK KK) | ((repeat refine And.intro (by first | omega | (rw [getD_map_lt (by omega)]; rfl) | (simp; first | done | omega)) ?_); first | (refine hK _ _ ?_; clear hK KK) | (refine hK _ ?_; clear hK KK; try simp only [upd_mk]))) | ((with_reducible first | refine o_nil (hT _ _ ?_) | refine h_nil (hT _ ?_)); clear hT KT) | ((first | refine gd fun AA BB hA hB => ?_ | refine tc fun AA BB hA hB => ?_); first | (refine go ?_; (first | refine hA ?_ | refine hB ?_); clear hA hB AA BB) | (refine go2 ?_ ?_ <;> intro hb <;> (first | refine hA ?_ | refine hB ?_) <;> clear hA hB AA BB <;> (try simp only [hb, decide_true, decide_false]) <;> (try (exfalso; first | (simp at hb; done) | (simp at hb; omega))))) | (with_reducible refine skS ?_; simp only [upd_mk]) | with_reducible refine tdr fun KT hT => ?_ | with_reducible refine bY ?_)
       all_goals clear fx)
      refine k_rnd (j + 1) (imp_keep ?_ ?_ rfl) h (by omega)
      · simp [Keep, mk, wrapS (show j < 4611686018427387904 by omega)]
        omega
      · simp only [KeepT, mkT, if_true, and_true]
        exact congrArg (fun r => some (Ent.row r)) (mixM_set (f := asRow) (mk := mkA) (s := 3) (k := k) h)
    · obtain rfl : j = l.length := by omega
      have e1 : decide ((l.length : Int) < (l.length : Int)) = false := by simp
      have e3 := mixM_len (f := asRow) (mk := mkA) (s := 3) (k := k) hj
      (have fx := And.intro (@e1) (@e3)
       repeat' (first | with_reducible refine go ?_ | with_reducible refine t_region fun KT hT => ?_ | (refine gp fun KK hK => ?_; first | (refine hK _ _ ?_; clear hK KK) | (refine hK _ ?_; clear hK KK; try simp only [upd_mk]) | (refine ⟨by first | exact eq_hop, hK _ _ ?_⟩; clear hK KK) | (refine ⟨by first | exact eq_hop, hK _ (nz ?_)⟩; clear hK KK) | ((repeat refine And.intro (by first | omega | (rw [getD_map_lt (by omega)]; rfl) | (simp; first | done | omega)) ?_); first | (refine hK _ _ ?_; clear hK KK) | (refine hK _ ?_; clear hK KK; try simp only [upd_mk]))) | ((with_reducible first | refine o_nil (hT _ _ ?_) | refine h_nil (hT _ ?_)); clear hT KT) | ((first | refine gd fun AA BB hA hB => ?_ | refine tc fun AA BB hA hB => ?_); first | (refine go ?_; (first | refine hA ?_ | refine hB ?_); clear hA hB AA BB) | (refine go2 ?_ ?_ <;> intro hb <;> (first | refine hA ?_ | refine hB ?_) <;> clear hA hB AA BB <;> (try simp only [hb, decide_true, decide_false]) <;> (try (exfalso; first | (simp at hb; done) | (simp at hb; omega))))) | (with_reducible refine skS ?_; simp only [upd_mk]) | with_reducible refine tdr fun KT hT => ?_ | with_reducible refine bY ?_)
       all_goals clear fx)
      refine (fin_m (by simp only [resQ, packD, callQ, viewL, view, noFsL, noFs, intsOf, Option.map_some, stp, hv, qv, ev, cD, scr, scrL, Ent.scr, flat, one, binQ, ldQ, storeQ, lay, Nat.reduceLT, Nat.reduceLeDiff, Nat.reduceAdd, Nat.reduceEqDiff, Nat.reduceMul, Nat.reduceSub, reduceIte, reduceCtorEq, fillQ, bne_iff_ne, Nat.reduceBNe, Nat.reduceBEq, rowsOf, cloL, clo, exists_eq_left', exists_and_left, appendQ, partsQ, Int.cast_ofNat_Int, Int.reduceBEq, Int.reduceBNe, Int.reduceLT, Int.reduceLE, Int.reduceEq, Int.reduceNe, Int.reduceAdd, Int.reduceSub, Int.reduceNeg, Int.reduceToNat, decide_true, decide_false, ne_eq, not_false_eq_true, true_and, and_true, Nat.add_zero, Nat.zero_add, Nat.not_lt_zero, Bool.not_true, Bool.not_false, Int.le_refl, bA, bB, ti3, ti4, ti30, ti107, hopRow, polRow, segRow, intRow, rowLen_ints, rowLen_nil, rowLen_cons, rowLen_append, List.length_append, byteRow, rowLen_bytes, bytesOf_map, bytesOf_cons, bytesOf_one, rowLen_strs, asRow, lkRow, tpRow, rowLen_hops, rowLen_ases, rowLen_links, bcRow, rowLen_bcs, u8Row, intRow]) ?_).1
      exact pin_one (by rw [← mixM_all]; rfl)
  · exact map_len_marks rfl
  · exact flat_one (flat_map (fun _ => rfl) _)

theorem markASS_at {M : Tab} {σ : Slots} {d : Nat} {K : Slots → Tab → Prop} {id : Nat} (l : List As) (k : Int) (hk : 0 ≤ k) (hk' : k + 3 * l.length < 4611686018427387904) (hM : M id = some (.row (l.map asRow)))
    (h : K (upd σ d (.int .i64 (k + 3 * l.length))) (upd M id (some (.row ((marks mkA 3 k l.length).map asRow))))) : mcallQ Try.prog M σ d 88 [.fs id, .int .i64 k] K :=
  ⟨[id], [_], _, [_], [.fs 0, .int .i64 k], rfl, by simp, by simp [hM], markASS_ok l k hk hk', h⟩

theorem byteRows_u8 (b : List UInt8) : b.map byteRow = (b.map fun x => (x.toNat : Int)).map u8Row := by simp [u8Row]
theorem markByteS_atB {M : Tab} {σ : Slots} {d : Nat} {K : Slots → Tab → Prop} {id : Nat} (b : List UInt8) (k : Int) (hk : 0 ≤ k) (hk' : k + b.length < 4611686018427387904) (hM : M id = some (.row (b.map byteRow)))
    (h : K (upd σ d (.int .i64 (k + b.length))) (upd M id (some (.row ((marks mkU 1 k b.length).map u8Row))))) : mcallQ Try.prog M σ d 44 [.fs id, .int .i64 k] K := by
  refine markByteS_at (b.map fun x => (x.toNat : Int)) k hk (by simpa using hk') (by rw [← byteRows_u8]; exact hM) ?_
  simpa using h

theorem markSegment_ok (s : Sg) (k : Int) (hk : 0 ≤ k) (hk' : k + 5 * s.hops.length < 4611686018427387904) : MCall Try.prog 45 [.agg [.int .i64 s.ts, .int .i64 s.beta, .fs 0], .int .i64 k] [s.hops.map hopRow] (.int .i64 (k + 5 * s.hops.length)) [(marks mkH 5 k s.hops.length).map hopRow] := by
  refine mcall_mk Try.func45 rfl Try.ntmps45 Try.results45 (by kernel_rfl) (by simp) (by decide) rfl (by simp) rfl ?_ ?_ ?_
  rotate_left 2
  simp only [args, backL, back, pinIds, pinL, Nat.zero_add, Nat.reduceAdd, bB]
  · repeat' (first | with_reducible refine go ?_ | with_reducible refine t_region fun KT hT => ?_ | (refine gp fun KK hK => ?_; first | (refine hK _ _ ?_; clear hK KK) | (refine hK _ ?_; clear hK KK; try simp only [upd_mk]) | ((first | refine .inr (.inl (markHopS_at s.hops k hk hk' rfl (hK _ _ (nz ?_))))); clear hK KK) | (refine ⟨by first | exact eq_hop, hK _ _ ?_⟩; clear hK KK) | (refine ⟨by first | exact eq_hop, hK _ (nz ?_)⟩; clear hK KK) | ((repeat refine And.intro (by first | omega | (rw [getD_map_lt (by omega)]; rfl) | (simp; first | done | omega)) ?_); first | (refine hK _ _ ?_; clear hK KK) | (refine hK _ ?_; clear hK KK; try simp only [upd_mk]))) | ((with_reducible first | refine o_nil (hT _ _ ?_) | refine h_nil (hT _ ?_)); clear hT KT) | ((first | refine gd fun AA BB hA hB => ?_ | refine tc fun AA BB hA hB => ?_); first | (refine go ?_; (first | refine hA ?_ | refine hB ?_); clear hA hB AA BB) | (refine go2 ?_ ?_ <;> intro hb <;> (first | refine hA ?_ | refine hB ?_) <;> clear hA hB AA BB <;> (try simp only [hb, decide_true, decide_false]) <;> (try (exfalso; first | (simp at hb; done) | (simp at hb; omega))))) | (with_reducible refine skS ?_; simp only [upd_mk]) | with_reducible refine tdr fun KT hT => ?_ | with_reducible refine bY ?_)
    refine (fin_m (by simp only [resQ, packD, callQ, viewL, view, noFsL, noFs, intsOf, Option.map_some, stp, hv, qv, ev, cD, scr, scrL, Ent.scr, flat, one, binQ, ldQ, storeQ, lay, Nat.reduceLT, Nat.reduceLeDiff, Nat.reduceAdd, Nat.reduceEqDiff, Nat.reduceMul, Nat.reduceSub, reduceIte, reduceCtorEq, fillQ, bne_iff_ne, Nat.reduceBNe, Nat.reduceBEq, rowsOf, cloL, clo, exists_eq_left', exists_and_left, appendQ, partsQ, Int.cast_ofNat_Int, Int.reduceBEq, Int.reduceBNe, Int.reduceLT, Int.reduceLE, Int.reduceEq, Int.reduceNe, Int.reduceAdd, Int.reduceSub, Int.reduceNeg, Int.reduceToNat, decide_true, decide_false, ne_eq, not_false_eq_true, true_and, and_true, Nat.add_zero, Nat.zero_add, Nat.not_lt_zero, Bool.not_true, Bool.not_false, Int.le_refl, bA, bB, ti3, ti49, ti51, ti115, hopRow, polRow, segRow, intRow, rowLen_ints, rowLen_nil, rowLen_cons, rowLen_append, List.length_append, byteRow, rowLen_bytes, bytesOf_map, bytesOf_cons, bytesOf_one, rowLen_strs, asRow, lkRow, tpRow, rowLen_hops, rowLen_ases, rowLen_links, bcRow, rowLen_bcs, u8Row, intRow]) ?_).1
    exact pin_one rfl
  · exact map_len_marks rfl
  · exact flat_one (flat_map (fun _ => rfl) _)

theorem markSegment_at {M : Tab} {σ : Slots} {d : Nat} {K : Slots → Tab → Prop} {id : Nat} (s : Sg) (k : Int) (hk : 0 ≤ k) (hk' : k + 5 * s.hops.length < 4611686018427387904) (hM : M id = some (.row (s.hops.map hopRow)))
    (h : K (upd σ d (.int .i64 (k + 5 * s.hops.length))) (upd M id (some (.row ((marks mkH 5 k s.hops.length).map hopRow))))) : mcallQ Try.prog M σ d 45 [.agg [.int .i64 s.ts, .int .i64 s.beta, .fs id], .int .i64 k] K :=
  ⟨[id], [_], _, [_], [.agg [.int .i64 s.ts, .int .i64 s.beta, .fs 0], .int .i64 k], rfl, by simp, by simp [hM], markSegment_ok s k hk hk', h⟩

theorem heldSegment_ok (ts be : Int) (n : Nat) (k : Int) (hk : 0 ≤ k) (hk' : k + 5 * n < 4611686018427387904) : ACall Try.prog 46 [.agg [.int .i64 ts, .int .i64 be, .sl ((marks mkH 5 k n).map hopRow)], .int .i64 k] (.int .i64 (k + 5 * n)) [] := by
  have e0 : decide (k + 5 * n < 0) = false := decide_eq_false (by omega)
  refine acall_mk Try.func46 rfl Try.ntmps46 Try.results46 (by kernel_rfl) (by simp) ?_
  simp only [args, Nat.zero_add, Nat.reduceAdd]
  (have fx := (@e0)
   repeat' (first | with_reducible refine go ?_ | with_reducible refine t_region fun KT hT => ?_ | (refine gp fun KK hK => ?_; first | (refine hK _ _ ?_; clear hK KK) | (refine hK _ ?_; clear hK KK; try simp only [upd_mk]) | ((with_reducible first | refine .inl ⟨_, _, ⟨heldHopS_ok n k hk hk', rfl, csq⟩, hK _ _ (nz ?_)⟩ | refine ⟨_, ⟨heldHopS_ok n k hk hk', rfl, rfl, csq⟩, hK _ (nz ?_)⟩); clear hK KK) | (refine ⟨by first | exact eq_hop, hK _ _ ?_⟩; clear hK KK) | (refine ⟨by first | exact eq_hop, hK _ (nz ?_)⟩; clear hK KK) | ((repeat refine And.intro (by first | omega | (rw [getD_map_lt (by omega)]; rfl) | (simp; first | done | omega)) ?_); first | (refine hK _ _ ?_; clear hK KK) | (refine hK _ ?_; clear hK KK; try simp only [upd_mk]))) | ((with_reducible first | refine o_nil (hT _ _ ?_) | refine h_nil (hT _ ?_)); clear hT KT) | ((first | refine gd fun AA BB hA hB => ?_ | refine tc fun AA BB hA hB => ?_); first | (refine go ?_; (first | refine hA ?_ | refine hB ?_); clear hA hB AA BB) | (refine go2 ?_ ?_ <;> intro hb <;> (first | refine hA ?_ | refine hB ?_) <;> clear hA hB AA BB <;> (try simp only [hb, decide_true, decide_false]) <;> (try (exfalso; first | (simp at hb; done) | (simp at hb; omega))))) | (with_reducible refine skS ?_; simp only [upd_mk]) | with_reducible refine tdr fun KT hT => ?_ | with_reducible refine bY ?_)
   all_goals clear fx)
  (refine fe ?_; try exact trivial)

theorem markTopology_ok (t : Tp) (k : Int) (hk : 0 ≤ k) (hk' : k + 3 * t.ases.length + 5 * t.links.length < 4611686018427387904) : MCall Try.prog 34 [.agg [.fs 0, .fs 1], .int .i64 k] [t.ases.map asRow, t.links.map lkRow] (.int .i64 (k + 3 * t.ases.length + 5 * t.links.length)) [(marks mkA 3 k t.ases.length).map asRow, (marks mkL 5 (k + 3 * t.ases.length) t.links.length).map lkRow] := by
  refine mcall_mk Try.func34 rfl Try.ntmps34 Try.results34 (by kernel_rfl) (by simp) (by decide) rfl (by simp) rfl ?_ ?_ ?_
  rotate_left 2
  simp only [args, backL, back, pinIds, pinL, Nat.zero_add, Nat.reduceAdd, bB]
  · repeat' (first | with_reducible refine go ?_ | with_reducible refine t_region fun KT hT => ?_ | (refine gp fun KK hK => ?_; first | (refine hK _ _ ?_; clear hK KK) | (refine hK _ ?_; clear hK KK; try simp only [upd_mk]) | ((first | refine .inr (.inl (markASS_at t.ases k hk (by omega) rfl (hK _ _ (nz ?_)))) | refine .inr (.inl (markLinkS_at t.links (k + 3 * t.ases.length) (by omega) hk' rfl (hK _ _ (nz ?_))))); clear hK KK) | (refine ⟨by first | exact eq_hop, hK _ _ ?_⟩; clear hK KK) | (refine ⟨by first | exact eq_hop, hK _ (nz ?_)⟩; clear hK KK) | ((repeat refine And.intro (by first | omega | (rw [getD_map_lt (by omega)]; rfl) | (simp; first | done | omega)) ?_); first | (refine hK _ _ ?_; clear hK KK) | (refine hK _ ?_; clear hK KK; try simp only [upd_mk]))) | ((with_reducible first | refine o_nil (hT _ _ ?_) | refine h_nil (hT _ ?_)); clear hT KT) | ((first | refine gd fun AA BB hA hB => ?_ | refine tc fun AA BB hA hB => ?_); first | (refine go ?_; (first | refine hA ?_ | refine hB ?_); clear hA hB AA BB) | (refine go2 ?_ ?_ <;> intro hb <;> (first | refine hA ?_ | refine hB ?_) <;> clear hA hB AA BB <;> (try simp only [hb, decide_true, decide_false]) <;> (try (exfalso; first | (simp at hb; done) | (simp at hb; omega))))) | (with_reducible refine skS ?_; simp only [upd_mk]) | with_reducible refine tdr fun KT hT => ?_ | with_reducible refine bY ?_)
    refine (fin_m (by simp only [resQ, packD, callQ, viewL, view, noFsL, noFs, intsOf, Option.map_some, stp, hv, qv, ev, cD, scr, scrL, Ent.scr, flat, one, binQ, ldQ, storeQ, lay, Nat.reduceLT, Nat.reduceLeDiff, Nat.reduceAdd, Nat.reduceEqDiff, Nat.reduceMul, Nat.reduceSub, reduceIte, reduceCtorEq, fillQ, bne_iff_ne, Nat.reduceBNe, Nat.reduceBEq, rowsOf, cloL, clo, exists_eq_left', exists_and_left, appendQ, partsQ, Int.cast_ofNat_Int, Int.reduceBEq, Int.reduceBNe, Int.reduceLT, Int.reduceLE, Int.reduceEq, Int.reduceNe, Int.reduceAdd, Int.reduceSub, Int.reduceNeg, Int.reduceToNat, decide_true, decide_false, ne_eq, not_false_eq_true, true_and, and_true, Nat.add_zero, Nat.zero_add, Nat.not_lt_zero, Bool.not_true, Bool.not_false, Int.le_refl, bA, bB, ti3, ti30, ti31, ti33, ti107, ti133, hopRow, polRow, segRow, intRow, rowLen_ints, rowLen_nil, rowLen_cons, rowLen_append, List.length_append, byteRow, rowLen_bytes, bytesOf_map, bytesOf_cons, bytesOf_one, rowLen_strs, asRow, lkRow, tpRow, rowLen_hops, rowLen_ases, rowLen_links, bcRow, rowLen_bcs, u8Row, intRow]) ?_).1
    exact pin_two rfl rfl
  · simp [marks_len]
  · intro r hr
    rcases List.mem_cons.1 hr with rfl | hr
    · exact flat_map (fun _ => rfl) _
    · rw [List.mem_singleton.1 hr]; exact flat_map (fun _ => rfl) _

theorem markTopology_at {M : Tab} {σ : Slots} {d : Nat} {K : Slots → Tab → Prop} {i j : Nat} (t : Tp) (k : Int) (hk : 0 ≤ k) (hk' : k + 3 * t.ases.length + 5 * t.links.length < 4611686018427387904) (hij : i ≠ j) (hM : M i = some (.row (t.ases.map asRow))) (hM' : M j = some (.row (t.links.map lkRow)))
    (h : K (upd σ d (.int .i64 (k + 3 * t.ases.length + 5 * t.links.length))) (upd (upd M i (some (.row ((marks mkA 3 k t.ases.length).map asRow)))) j (some (.row ((marks mkL 5 (k + 3 * t.ases.length) t.links.length).map lkRow))))) : mcallQ Try.prog M σ d 34 [.agg [.fs i, .fs j], .int .i64 k] K :=
  ⟨[i, j], [_, _], _, [_, _], [.agg [.fs 0, .fs 1], .int .i64 k], rfl, by simp [hij], by simp [hM, hM'], markTopology_ok t k hk hk', h⟩

end Go.Proofs.Ytgdldeggoflabaa
