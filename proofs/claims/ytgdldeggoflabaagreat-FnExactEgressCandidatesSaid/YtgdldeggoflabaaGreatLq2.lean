/- The functions of this program, walked by the evaluator: part q, 2. -/
import Derived.Test.YtgdldeggoflabaaGreatLq1
namespace Go.Proofs.YtgdldeggoflabaaGreat
open Go.RowKit
set_option linter.unusedSimpArgs false
set_option linter.unusedVariables false
set_option maxRecDepth 100000
set_option linter.defProp false
namespace GLq2
def gx := And.intro (@hopRow.eq_1) (And.intro (@polRow.eq_1) (And.intro (@segRow.eq_1) (And.intro (@intRow.eq_1) (And.intro (@rowLen_ints) (And.intro (@rowLen_nil) (And.intro (@rowLen_cons) (And.intro (@rowLen_append) (And.intro (@lenL_app) (And.intro (@byteRow.eq_1) (And.intro (@rowLen_bytes) (And.intro (@bytesOf_map) (And.intro (@bytesOf_cons) (And.intro (@bytesOf_one) (And.intro (@rowLen_strs) (And.intro (@asRow.eq_1) (And.intro (@lkRow.eq_1) (And.intro (@tpRow.eq_1) (And.intro (@rowLen_hops) (And.intro (@rowLen_ases) (And.intro (@rowLen_links) (And.intro (@bcRow.eq_1) (And.intro (@rowLen_bcs) (@u8Row.eq_1)))))))))))))))))))))))
end GLq2
open GLq2
theorem heldSegment_ok (ts be : Int) (n : Nat) (k : Int) (hk : 0 ≤ k) (hk' : k + 5 * n < 4611686018427387904) : ACall Tryz.prog 22 [.agg [.int .i64 ts, .int .i64 be, .sl ((marks mkH 5 k n).map hopRow)], .int .i64 k] (.int .i64 (k + 5 * n)) [] := by
  have e0 : decide (k + 5 * n < 0) = false := decide_eq_false (by omega)
  refine acall_mk Tryz.func22 rfl Tryz.ntmps22 Tryz.results22 (by kernel_rfl) (by simp) ?_
  simp only [args, Nat.zero_add, Nat.reduceAdd]
  (have fx := (@e0)
   repeat' (first | with_reducible refine go ?_ | with_reducible refine t_region fun KT hT => ?_ | (refine gp fun KK hK => ?_; first | (refine hK _ _ ?_; clear hK KK) | (refine hK _ ?_; clear hK KK; try simp only [upd_mk]) | ((with_reducible first | refine .inl ⟨_, _, ⟨heldHopS_ok n k hk hk', rfl, csq⟩, hK _ _ (nz ?_)⟩ | refine ⟨_, ⟨heldHopS_ok n k hk hk', rfl, rfl, csq⟩, hK _ (nz ?_)⟩); clear hK KK) | (refine ⟨by first | exact eq_hop, hK _ _ ?_⟩; clear hK KK) | (refine ⟨by first | exact eq_hop, hK _ (nz ?_)⟩; clear hK KK) | ((repeat refine And.intro (by first | omega | (rw [getD_map_lt (by omega)]; rfl) | (simp; first | done | omega)) ?_); first | (refine hK _ _ ?_; clear hK KK) | (refine hK _ ?_; clear hK KK; try simp only [upd_mk]))) | ((with_reducible first | refine o_nil (hT _ _ ?_) | refine h_nil (hT _ ?_)); clear hT KT) | ((first | refine gd fun AA BB hA hB => ?_ | refine tc fun AA BB hA hB => ?_); first | (refine go ?_; (first | refine hA ?_ | refine hB ?_); clear hA hB AA BB) | (refine go2 ?_ ?_ <;> intro hb <;> (first | refine hA ?_ | refine hB ?_) <;> clear hA hB AA BB <;> (try simp only [hb, decide_true, decide_false]) <;> (try (exfalso; first | (simp at hb; done) | (simp at hb; omega))))) | (with_reducible refine skS ?_; simp only [upd_mk]) | with_reducible refine tdr fun KT hT => ?_ | with_reducible refine bY ?_)
   all_goals clear fx)
  (refine fe ?_; try exact trivial)

theorem markTopology_ok (t : Tp) (k : Int) (hk : 0 ≤ k) (hk' : k + 3 * t.ases.length + 5 * t.links.length < 4611686018427387904) : MCall Tryz.prog 16 [.agg [.fs 0, .fs 1], .int .i64 k] [t.ases.map asRow, t.links.map lkRow] (.int .i64 (k + 3 * t.ases.length + 5 * t.links.length)) [(marks mkA 3 k t.ases.length).map asRow, (marks mkL 5 (k + 3 * t.ases.length) t.links.length).map lkRow] := by
  refine mcall_mk Tryz.func16 rfl Tryz.ntmps16 Tryz.results16 (by kernel_rfl) (by simp) (by decide) rfl (by simp) rfl ?_ ?_ ?_
  rotate_left 2
  simp only [args, backL, back, pinIds, pinL, Nat.zero_add, Nat.reduceAdd, bB]
  · repeat' (first | with_reducible refine go ?_ | with_reducible refine t_region fun KT hT => ?_ | (refine gp fun KK hK => ?_; first | (refine hK _ _ ?_; clear hK KK) | (refine hK _ ?_; clear hK KK; try simp only [upd_mk]) | ((first | refine .inr (.inl (markASS_at t.ases k hk (by omega) rfl (hK _ _ (nz ?_)))) | refine .inr (.inl (markLinkS_at t.links (k + 3 * t.ases.length) (by omega) hk' rfl (hK _ _ (nz ?_))))); clear hK KK) | (refine ⟨by first | exact eq_hop, hK _ _ ?_⟩; clear hK KK) | (refine ⟨by first | exact eq_hop, hK _ (nz ?_)⟩; clear hK KK) | ((repeat refine And.intro (by first | omega | (rw [getD_map_lt (by omega)]; rfl) | (simp; first | done | omega)) ?_); first | (refine hK _ _ ?_; clear hK KK) | (refine hK _ ?_; clear hK KK; try simp only [upd_mk]))) | ((with_reducible first | refine o_nil (hT _ _ ?_) | refine h_nil (hT _ ?_)); clear hT KT) | ((first | refine gd fun AA BB hA hB => ?_ | refine tc fun AA BB hA hB => ?_); first | (refine go ?_; (first | refine hA ?_ | refine hB ?_); clear hA hB AA BB) | (refine go2 ?_ ?_ <;> intro hb <;> (first | refine hA ?_ | refine hB ?_) <;> clear hA hB AA BB <;> (try simp only [hb, decide_true, decide_false]) <;> (try (exfalso; first | (simp at hb; done) | (simp at hb; omega))))) | (with_reducible refine skS ?_; simp only [upd_mk]) | with_reducible refine tdr fun KT hT => ?_ | with_reducible refine bY ?_)
    refine (fin_m (by simp only [resQ, packD, callQ, viewL, view, noFsL, noFs, intsOf, Option.map_some, stp, hv, qv, ev, cD, scr, scrL, Ent.scr, flat, one, binQ, ldQ, storeQ, lay, Nat.reduceLT, Nat.reduceLeDiff, Nat.reduceAdd, Nat.reduceEqDiff, Nat.reduceMul, Nat.reduceSub, reduceIte, reduceCtorEq, fillQ, bne_iff_ne, Nat.reduceBNe, Nat.reduceBEq, rowsOf, cloL, clo, exists_eq_left', exists_and_left, appendQ, partsQ, Int.cast_ofNat_Int, Int.reduceBEq, Int.reduceBNe, Int.reduceLT, Int.reduceLE, Int.reduceEq, Int.reduceNe, Int.reduceAdd, Int.reduceSub, Int.reduceNeg, Int.reduceToNat, decide_true, decide_false, ne_eq, not_false_eq_true, true_and, and_true, Nat.add_zero, Nat.zero_add, Nat.not_lt_zero, Bool.not_true, Bool.not_false, Int.le_refl, bA, bB, ti3, ti35, ti36, ti38, ti81, ti85, hopRow, polRow, segRow, intRow, rowLen_ints, rowLen_nil, rowLen_cons, rowLen_append, List.length_append, byteRow, rowLen_bytes, bytesOf_map, bytesOf_cons, bytesOf_one, rowLen_strs, asRow, lkRow, tpRow, rowLen_hops, rowLen_ases, rowLen_links, bcRow, rowLen_bcs, u8Row, intRow]) ?_).1
    exact pin_two rfl rfl
  · simp [marks_len]
  · intro r hr
    rcases List.mem_cons.1 hr with rfl | hr
    · exact flat_map (fun _ => rfl) _
    · rw [List.mem_singleton.1 hr]; exact flat_map (fun _ => rfl) _

theorem markTopology_at {M : Tab} {σ : Slots} {d : Nat} {K : Slots → Tab → Prop} {i j : Nat} (t : Tp) (k : Int) (hk : 0 ≤ k) (hk' : k + 3 * t.ases.length + 5 * t.links.length < 4611686018427387904) (hij : i ≠ j) (hM : M i = some (.row (t.ases.map asRow))) (hM' : M j = some (.row (t.links.map lkRow)))
    (h : K (upd σ d (.int .i64 (k + 3 * t.ases.length + 5 * t.links.length))) (upd (upd M i (some (.row ((marks mkA 3 k t.ases.length).map asRow)))) j (some (.row ((marks mkL 5 (k + 3 * t.ases.length) t.links.length).map lkRow))))) : mcallQ Tryz.prog M σ d 16 [.agg [.fs i, .fs j], .int .i64 k] K :=
  ⟨[i, j], [_, _], _, [_, _], [.agg [.fs 0, .fs 1], .int .i64 k], rfl, by simp [hij], by simp [hM, hM'], markTopology_ok t k hk hk', h⟩

end Go.Proofs.YtgdldeggoflabaaGreat
