/- The functions of this program, walked by the evaluator: part zk, 1. -/
import Derived.Test.YtmiclkgkfkcnoaaLzd1
import Derived.Test.YtmiclkgkfkcnoaaLD
namespace Go.Proofs.Ytmiclkgkfkcnoaa
open Go.RowKit
set_option linter.unusedSimpArgs false
set_option linter.unusedVariables false
set_option maxRecDepth 100000
set_option linter.defProp false
namespace GLzk1
def gx := And.intro (@hopRow.eq_1) (And.intro (@polRow.eq_1) (And.intro (@segRow.eq_1) (And.intro (@intRow.eq_1) (And.intro (@rowLen_ints) (And.intro (@rowLen_nil) (And.intro (@rowLen_cons) (And.intro (@rowLen_append) (And.intro (@lenL_app) (And.intro (@byteRow.eq_1) (And.intro (@rowLen_bytes) (And.intro (@bytesOf_map) (And.intro (@bytesOf_cons) (And.intro (@bytesOf_one) (And.intro (@rowLen_strs) (And.intro (@asRow.eq_1) (And.intro (@lkRow.eq_1) (And.intro (@tpRow.eq_1) (And.intro (@rowLen_hops) (And.intro (@rowLen_ases) (And.intro (@rowLen_links) (And.intro (@bcRow.eq_1) (And.intro (@rowLen_bcs) (@u8Row.eq_1)))))))))))))))))))))))
end GLzk1
open GLzk1
set_option maxHeartbeats 8000000 in
theorem l12List_e (b : List UInt8) (zb : b.length ≤ 1048576) (i : Nat) (h : Int) (n : Nat) (hn : n ≤ 4) : ECall Try.prog 125 [.ptr 0 0 0, .int .i64 (n : Int)] [curE b i h] 2 (fun x : List Pl × Nat × Int => x.1.length ≤ n) (fun _ => .fs 1) (fun x => [curE b x.2.1 x.2.2, .row (x.1.map polRow)]) := by
  refine ecall_mk Try.func125 rfl Try.ntmps125 Try.results125 (by kernel_rfl) (by simp) (by decide) (by simp) rfl rfl ?_
  simp only [args, pinE, bk, bkL, bkE, bkEs, setE, Nat.zero_add, Nat.reduceAdd, bA, bB]
  repeat' (first | with_reducible refine go ?_ | with_reducible refine t_region fun KT hT => ?_ | (refine gp fun KK hK => ?_; first | (refine hK _ _ ?_; clear hK KK) | (refine hK _ ?_; clear hK KK; try simp only [upd_mk]) | (refine ⟨by first | exact eq_hop, hK _ _ ?_⟩; clear hK KK) | (refine ⟨by first | exact eq_hop, hK _ (nz ?_)⟩; clear hK KK) | ((repeat refine And.intro (by first | omega | (rw [getD_map_lt (by omega)]; rfl) | (simp; first | done | omega)) ?_); first | (refine hK _ _ ?_; clear hK KK) | (refine hK _ ?_; clear hK KK; try simp only [upd_mk]))) | ((with_reducible first | refine o_nil (hT _ _ ?_) | refine h_nil (hT _ ?_)); clear hT KT) | ((first | refine gd fun AA BB hA hB => ?_ | refine tc fun AA BB hA hB => ?_); first | (refine go ?_; (first | refine hA ?_ | refine hB ?_); clear hA hB AA BB) | (refine go2 ?_ ?_ <;> intro hb <;> (first | refine hA ?_ | refine hB ?_) <;> clear hA hB AA BB <;> (try simp only [hb, decide_true, decide_false]) <;> (try (exfalso; first | (simp at hb; done) | (simp at hb; omega))))) | (with_reducible refine skS ?_; simp only [upd_mk]) | with_reducible refine tdr fun KT hT => ?_ | with_reducible refine bY ?_)
  refine t_loop (fun q : Nat × List Pl × Nat × Int => [(0, .ptr 900 0 0), (1, .int .i64 (n : Int)), (5, .fs 199), (6, .int .i64 (q.1 : Int))]) (fun q => [(900, curE b q.2.2.1 q.2.2.2), (199, .row (q.2.1.map polRow))]) (fun q => q.1 ≤ n ∧ q.2.1.length ≤ q.1) (fun q => n - q.1) (0, [], i, h) (imp_move 5 8 199 rfl rfl rfl (imp_keep (by simp [Keep, mk, scrP, scr]) (by simp [KeepT, mkT, del, scrT, Ent.scr, scrL, scr]) rfl)) ⟨Nat.zero_le _, Nat.le_refl _⟩ ?_
  rintro ⟨k, l, i1, h1⟩ ⟨hk, hkl⟩
  simp only at hk hkl
  rcases Nat.lt_or_ge k n with h' | h'
  · have e1 : decide ((k : Int) < (n : Int)) = true := decide_eq_true (by omega)
    have wk := wrapS (show k < 4611686018427387904 by omega)
    have ha : ∀ a1 a2 a3 a4 : Int, l.map polRow ++ [[.int .i64 a1, .int .i64 a2, .int .i64 a3, .int .i64 a4]] = (l ++ [(⟨a1, a2, a3, a4⟩ : Pl)]).map polRow := fun a1 a2 a3 a4 => by simp
    (have fx := And.intro (@e1) (And.intro (@wk) (And.intro (@ha) (@rowLen_pols')))
     repeat' (first | with_reducible refine go ?_ | with_reducible refine t_region fun KT hT => ?_ | (refine gp fun KK hK => ?_; first | (refine hK _ _ ?_; clear hK KK) | (refine hK _ ?_; clear hK KK; try simp only [upd_mk]) | ((first | (refine .inr (.inr (eQ [_] (l12Draw_e b zb _ _) (fun x hx => hK _ _ ?_))); refine nze ?_)); clear hK KK) | (refine ⟨by first | exact eq_hop, hK _ _ ?_⟩; clear hK KK) | (refine ⟨by first | exact eq_hop, hK _ (nz ?_)⟩; clear hK KK) | ((repeat refine And.intro (by first | omega | (rw [getD_map_lt (by omega)]; rfl) | (simp; first | done | omega)) ?_); first | (refine hK _ _ ?_; clear hK KK) | (refine hK _ ?_; clear hK KK; try simp only [upd_mk]))) | ((with_reducible first | refine o_nil (hT _ _ ?_) | refine h_nil (hT _ ?_)); clear hT KT) | ((first | refine gd fun AA BB hA hB => ?_ | refine tc fun AA BB hA hB => ?_); first | (refine go ?_; (first | refine hA ?_ | refine hB ?_); clear hA hB AA BB) | (refine go2 ?_ ?_ <;> intro hb <;> (first | refine hA ?_ | refine hB ?_) <;> clear hA hB AA BB <;> (try simp only [hb, decide_true, decide_false]) <;> (try (exfalso; first | (simp at hb; done) | (simp at hb; omega))))) | (with_reducible refine skS ?_; simp only [upd_mk]) | with_reducible refine tdr fun KT hT => ?_ | with_reducible refine bY ?_)
     all_goals clear fx)
    refine k_rnd (k + 1, l ++ [x.1], x.2.1, x.2.2) (imp_drop 7 (imp_drop 18 (imp_keep ?_ ?_ rfl))) ⟨h', by simp; omega⟩ (by simp only; omega)
    · simp [Keep, mk, scrP, scr]
    · simp [KeepT, mkT, del, scrT, Ent.scr, scrL, scr]
  · have e1 : decide ((k : Int) < (n : Int)) = false := decide_eq_false (by omega)
    (have fx := (@e1)
     repeat' (first | with_reducible refine go ?_ | with_reducible refine t_region fun KT hT => ?_ | (refine gp fun KK hK => ?_; first | (refine hK _ _ ?_; clear hK KK) | (refine hK _ ?_; clear hK KK; try simp only [upd_mk]) | (refine ⟨by first | exact eq_hop, hK _ _ ?_⟩; clear hK KK) | (refine ⟨by first | exact eq_hop, hK _ (nz ?_)⟩; clear hK KK) | ((repeat refine And.intro (by first | omega | (rw [getD_map_lt (by omega)]; rfl) | (simp; first | done | omega)) ?_); first | (refine hK _ _ ?_; clear hK KK) | (refine hK _ ?_; clear hK KK; try simp only [upd_mk]))) | ((with_reducible first | refine o_nil (hT _ _ ?_) | refine h_nil (hT _ ?_)); clear hT KT) | ((first | refine gd fun AA BB hA hB => ?_ | refine tc fun AA BB hA hB => ?_); first | (refine go ?_; (first | refine hA ?_ | refine hB ?_); clear hA hB AA BB) | (refine go2 ?_ ?_ <;> intro hb <;> (first | refine hA ?_ | refine hB ?_) <;> clear hA hB AA BB <;> (try simp only [hb, decide_true, decide_false]) <;> (try (exfalso; first | (simp at hb; done) | (simp at hb; omega))))) | (with_reducible refine skS ?_; simp only [upd_mk]) | with_reducible refine tdr fun KT hT => ?_ | with_reducible refine bY ?_)
     all_goals clear fx)
    refine fin_e ((l, _, _)) [900, 199] (Imp.refl _ _ _) ?_ (by simp only [resQ, packD, frzP, frzT, frz, frzL, Ent.frz, bk, bkL, bkE, bkEs, callQ, viewL, view, noFsL, noFs, intsOf, Option.map_some, stp, hv, qv, ev, cD, scr, scrL, Ent.scr, flat, one, binQ, ldQ, storeQ, lay, Nat.reduceLT, Nat.reduceLeDiff, Nat.reduceAdd, Nat.reduceEqDiff, Nat.reduceMul, Nat.reduceSub, reduceIte, reduceCtorEq, fillQ, bne_iff_ne, Nat.reduceBNe, Nat.reduceBEq, rowsOf, cloL, clo, exists_eq_left', exists_and_left, appendQ, partsQ, Int.cast_ofNat_Int, Int.reduceBEq, Int.reduceBNe, Int.reduceLT, Int.reduceLE, Int.reduceEq, Int.reduceNe, Int.reduceAdd, Int.reduceSub, Int.reduceNeg, Int.reduceToNat, decide_true, decide_false, ne_eq, not_false_eq_true, true_and, and_true, Nat.add_zero, Nat.zero_add, Nat.not_lt_zero, Bool.not_true, Bool.not_false, Int.le_refl, bA, bB, bT, gx]; first | done | trivial | exact ⟨rfl, rfl⟩)
    simp only; omega

end Go.Proofs.Ytmiclkgkfkcnoaa
