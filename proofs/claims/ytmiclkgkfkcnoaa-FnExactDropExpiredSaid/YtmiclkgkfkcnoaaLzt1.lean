/- The functions of this program, walked by the evaluator: part zt, 1. -/
import Derived.Test.YtmiclkgkfkcnoaaLc1
import Derived.Test.YtmiclkgkfkcnoaaLt1
import Derived.Test.YtmiclkgkfkcnoaaLv1
import Derived.Test.YtmiclkgkfkcnoaaLzd1
import Derived.Test.YtmiclkgkfkcnoaaLD
namespace Go.Proofs.Ytmiclkgkfkcnoaa
open Go.RowKit
set_option linter.unusedSimpArgs false
set_option linter.unusedVariables false
set_option maxRecDepth 100000
set_option linter.defProp false
namespace GLzt1
def gx := And.intro (@hopRow.eq_1) (And.intro (@polRow.eq_1) (And.intro (@segRow.eq_1) (And.intro (@intRow.eq_1) (And.intro (@rowLen_ints) (And.intro (@rowLen_nil) (And.intro (@rowLen_cons) (And.intro (@rowLen_append) (And.intro (@lenL_app) (And.intro (@byteRow.eq_1) (And.intro (@rowLen_bytes) (And.intro (@bytesOf_map) (And.intro (@bytesOf_cons) (And.intro (@bytesOf_one) (And.intro (@rowLen_strs) (And.intro (@asRow.eq_1) (And.intro (@lkRow.eq_1) (And.intro (@tpRow.eq_1) (And.intro (@rowLen_hops) (And.intro (@rowLen_ases) (And.intro (@rowLen_links) (And.intro (@bcRow.eq_1) (And.intro (@rowLen_bcs) (@u8Row.eq_1)))))))))))))))))))))))
end GLzt1
open GLzt1
theorem copyBc_i (g : Bc) (hl : g.seg.hops.length ≤ 1048576) : ACall Try.prog 106 [.agg (bcRow g)] (.agg (bcRow g)) [] := by
  have cc := (copySeg_i g.seg hl).ro
  simp only [view, viewL, tabOf, List.getElem?_cons_zero, Option.map_some, segRow] at cc
  refine acall_mk Try.func106 rfl Try.ntmps106 Try.results106 (by kernel_rfl) (by simp) ?_
  simp only [args, Nat.zero_add, Nat.reduceAdd]
  repeat' (first | with_reducible refine go ?_ | with_reducible refine t_region fun KT hT => ?_ | (refine gp fun KK hK => ?_; first | ((with_reducible first | refine .inl ⟨_, _, ⟨cc, rfl, csq⟩, hK _ _ (nz ?_)⟩ | refine ⟨_, ⟨cc, rfl, rfl, csq⟩, hK _ (nz ?_)⟩); clear hK KK) | (refine ⟨by first | exact eq_hop | exact eq_pol, ?_⟩; (first | refine hK _ _ ?_ | refine hK _ (nz ?_)); clear hK KK) | ((repeat refine And.intro (by first | omega | (rw [getD_map_lt (by omega)]; rfl) | (simp; first | done | omega)) ?_); first | (refine hK _ _ ?_; clear hK KK) | (refine hK _ ?_; clear hK KK; try simp only [upd_mk]))) | ((with_reducible first | refine o_nil (hT _ _ ?_) | refine h_nil (hT _ ?_)); clear hT KT) | (with_reducible first | refine ht_nil ?_ | refine dq_succ ?_ | refine dq_f ?_ | refine dq_t ?_) | ((first | refine gd fun AA BB hA hB => ?_ | refine tc fun AA BB hA hB => ?_); first | (refine go ?_; (first | refine hA ?_ | refine hB ?_); clear hA hB AA BB) | (refine go2 ?_ ?_ <;> intro hb <;> (first | refine hA ?_ | refine hB ?_) <;> clear hA hB AA BB <;> (try simp only [hb, decide_true, decide_false]) <;> (try (exfalso; first | (simp at hb; done) | (simp at hb; omega))))) | (with_reducible refine skS ?_; simp only [upd_mk]) | (refine tdT (id := 1) 5 fun KT hT => ?_) | with_reducible refine tdr fun KT hT => ?_ | with_reducible refine bY ?_)
  (refine fe ?_; try exact trivial)

theorem dropE_i (l : List Bc) (now : Int) (hl : l.length ≤ 1048576) (hx : ∀ b ∈ l, b.seg.hops.length ≤ 1048576) : ACall Try.prog 26 [.sl (l.map bcRow), .int .i64 now] (.fs 0) [(dropE l now).map bcRow] := by
  refine acall_mk Try.func26 rfl Try.ntmps26 Try.results26 (by kernel_rfl) (by simp) ?_
  simp only [args, Nat.zero_add, Nat.reduceAdd]
  repeat' (first | with_reducible refine go ?_ | with_reducible refine t_region fun KT hT => ?_ | (refine gp fun KK hK => ?_; first | (refine ⟨by first | exact eq_hop | exact eq_pol, ?_⟩; (first | refine hK _ _ ?_ | refine hK _ (nz ?_)); clear hK KK) | ((repeat refine And.intro (by first | omega | (rw [getD_map_lt (by omega)]; rfl) | (simp; first | done | omega)) ?_); first | (refine hK _ _ ?_; clear hK KK) | (refine hK _ ?_; clear hK KK; try simp only [upd_mk]))) | ((with_reducible first | refine o_nil (hT _ _ ?_) | refine h_nil (hT _ ?_)); clear hT KT) | ((first | refine gd fun AA BB hA hB => ?_ | refine tc fun AA BB hA hB => ?_); first | (refine go ?_; (first | refine hA ?_ | refine hB ?_); clear hA hB AA BB) | (refine go2 ?_ ?_ <;> intro hb <;> (first | refine hA ?_ | refine hB ?_) <;> clear hA hB AA BB <;> (try simp only [hb, decide_true, decide_false]) <;> (try (exfalso; first | (simp at hb; done) | (simp at hb; omega))))) | (with_reducible refine skS ?_; simp only [upd_mk]) | with_reducible refine tdr fun KT hT => ?_ | with_reducible refine bY ?_)
  refine t_loop (fun k : Nat => [(1, .int .i64 now), (8, .sl (l.map bcRow)), (9, .int .i64 l.length), (10, .int .i64 k), (5, .fs 99)]) (fun k => [(99, .row ((dropE (l.take k) now).map bcRow))]) (fun k => k ≤ l.length) (fun k => l.length - k) 0 (imp_nil 5 99 rfl rfl (imp_keep (by simp [Keep, mk]) (by simp [KeepT, mkT, dropE]) rfl)) (Nat.zero_le _) ?_
  intro k hk
  rcases Nat.lt_or_ge k l.length with h | h
  · have e1 : decide ((k : Int) < (l.length : Int)) = true := by simpa using h
    have e2 := getD_map_lt (f := bcRow) h
    have cc := copyBc_i l[k] (hx _ (List.getElem_mem h))
    have ce := segExp_i l[k].seg (hx _ (List.getElem_mem h))
    have st := dropE_step l now k h
    have e5 := dropE_len (l.take k) now
    simp only [List.length_take] at e5
    simp only [bcRow] at e2 cc
    simp only [segRow] at ce
    by_cases q : now ≤ leastEx l[k].seg.hops
    · rw [if_pos q] at st
      have e3 : decide (now ≤ leastEx l[k].seg.hops) = true := decide_eq_true q
      clear q
      generalize leastEx l[k].seg.hops = x at *
      generalize l[k] = g at *
      (have fx := And.intro (@e1) (And.intro (@e2) (And.intro (@e3) (And.intro (@h) (@rowLen_bcs))))
       repeat' (first | with_reducible refine go ?_ | with_reducible refine t_region fun KT hT => ?_ | (refine gp fun KK hK => ?_; first | ((with_reducible first | refine .inl ⟨_, _, ⟨cc, rfl, csq⟩, hK _ _ (nz ?_)⟩ | refine .inl ⟨_, _, ⟨ce, rfl, csq⟩, hK _ _ (nz ?_)⟩ | refine ⟨_, ⟨cc, rfl, rfl, csq⟩, hK _ (nz ?_)⟩ | refine ⟨_, ⟨ce, rfl, rfl, csq⟩, hK _ (nz ?_)⟩); clear hK KK) | (refine ⟨by first | exact eq_hop | exact eq_pol, ?_⟩; (first | refine hK _ _ ?_ | refine hK _ (nz ?_)); clear hK KK) | ((repeat refine And.intro (by first | omega | (rw [getD_map_lt (by omega)]; rfl) | (simp; first | done | omega)) ?_); first | (refine hK _ _ ?_; clear hK KK) | (refine hK _ ?_; clear hK KK; try simp only [upd_mk]))) | ((with_reducible first | refine o_nil (hT _ _ ?_) | refine h_nil (hT _ ?_)); clear hT KT) | ((first | refine gd fun AA BB hA hB => ?_ | refine tc fun AA BB hA hB => ?_); first | (refine go ?_; (first | refine hA ?_ | refine hB ?_); clear hA hB AA BB) | (refine go2 ?_ ?_ <;> intro hb <;> (first | refine hA ?_ | refine hB ?_) <;> clear hA hB AA BB <;> (try simp only [hb, decide_true, decide_false]) <;> (try (exfalso; first | (simp at hb; done) | (simp at hb; omega))))) | (with_reducible refine skS ?_; simp only [upd_mk]) | with_reducible refine tdr fun KT hT => ?_ | with_reducible refine bY ?_)
       all_goals clear fx)
      refine k_rnd (k + 1) (imp_drop 7 (imp_drop 22 (imp_keep ?_ ?_ rfl))) h (by omega)
      · simp [Keep, mk, scrP, scr, wrapS (show k < 4611686018427387904 by omega)]
      · simp only [KeepT, mkT, del, scrT, Ent.scr, scrL, scr, Nat.reduceEqDiff, reduceIte, Nat.reduceMul, Nat.reduceAdd]
        simp [st]
    · rw [if_neg q, List.append_nil] at st
      have e3 : decide (now ≤ leastEx l[k].seg.hops) = false := decide_eq_false q
      clear q
      generalize leastEx l[k].seg.hops = x at *
      generalize l[k] = g at *
      (have fx := And.intro (@e1) (And.intro (@e2) (And.intro (@e3) (And.intro (@h) (@rowLen_bcs))))
       repeat' (first | with_reducible refine go ?_ | with_reducible refine t_region fun KT hT => ?_ | (refine gp fun KK hK => ?_; first | ((with_reducible first | refine .inl ⟨_, _, ⟨cc, rfl, csq⟩, hK _ _ (nz ?_)⟩ | refine .inl ⟨_, _, ⟨ce, rfl, csq⟩, hK _ _ (nz ?_)⟩ | refine ⟨_, ⟨cc, rfl, rfl, csq⟩, hK _ (nz ?_)⟩ | refine ⟨_, ⟨ce, rfl, rfl, csq⟩, hK _ (nz ?_)⟩); clear hK KK) | (refine ⟨by first | exact eq_hop | exact eq_pol, ?_⟩; (first | refine hK _ _ ?_ | refine hK _ (nz ?_)); clear hK KK) | ((repeat refine And.intro (by first | omega | (rw [getD_map_lt (by omega)]; rfl) | (simp; first | done | omega)) ?_); first | (refine hK _ _ ?_; clear hK KK) | (refine hK _ ?_; clear hK KK; try simp only [upd_mk]))) | ((with_reducible first | refine o_nil (hT _ _ ?_) | refine h_nil (hT _ ?_)); clear hT KT) | ((first | refine gd fun AA BB hA hB => ?_ | refine tc fun AA BB hA hB => ?_); first | (refine go ?_; (first | refine hA ?_ | refine hB ?_); clear hA hB AA BB) | (refine go2 ?_ ?_ <;> intro hb <;> (first | refine hA ?_ | refine hB ?_) <;> clear hA hB AA BB <;> (try simp only [hb, decide_true, decide_false]) <;> (try (exfalso; first | (simp at hb; done) | (simp at hb; omega))))) | (with_reducible refine skS ?_; simp only [upd_mk]) | with_reducible refine tdr fun KT hT => ?_ | with_reducible refine bY ?_)
       all_goals clear fx)
      refine k_rnd (k + 1) (imp_drop 7 (imp_keep ?_ ?_ rfl)) h (by omega)
      · simp [Keep, mk, scrP, scr, wrapS (show k < 4611686018427387904 by omega)]
      · simp [KeepT, mkT, del, scrT, Ent.scr, scrL, scr, st]
  · obtain rfl : k = l.length := by omega
    have e1 : decide ((l.length : Int) < (l.length : Int)) = false := by simp
    (have fx := (@e1)
     repeat' (first | with_reducible refine go ?_ | with_reducible refine t_region fun KT hT => ?_ | (refine gp fun KK hK => ?_; first | (refine ⟨by first | exact eq_hop | exact eq_pol, ?_⟩; (first | refine hK _ _ ?_ | refine hK _ (nz ?_)); clear hK KK) | ((repeat refine And.intro (by first | omega | (rw [getD_map_lt (by omega)]; rfl) | (simp; first | done | omega)) ?_); first | (refine hK _ _ ?_; clear hK KK) | (refine hK _ ?_; clear hK KK; try simp only [upd_mk]))) | ((with_reducible first | refine o_nil (hT _ _ ?_) | refine h_nil (hT _ ?_)); clear hT KT) | ((first | refine gd fun AA BB hA hB => ?_ | refine tc fun AA BB hA hB => ?_); first | (refine go ?_; (first | refine hA ?_ | refine hB ?_); clear hA hB AA BB) | (refine go2 ?_ ?_ <;> intro hb <;> (first | refine hA ?_ | refine hB ?_) <;> clear hA hB AA BB <;> (try simp only [hb, decide_true, decide_false]) <;> (try (exfalso; first | (simp at hb; done) | (simp at hb; omega))))) | (with_reducible refine skS ?_; simp only [upd_mk]) | with_reducible refine tdr fun KT hT => ?_ | with_reducible refine bY ?_)
     all_goals clear fx)
    (refine (fin_own [99] ?_).1; simp only [resQ, packD, OwnRes, callQ, viewL, view, noFsL, noFs, intsOf, Option.map_some, stp, hv, qv, ev, cD, scr, scrL, Ent.scr, flat, one, binQ, ldQ, storeQ, lay, Nat.reduceLT, Nat.reduceLeDiff, Nat.reduceAdd, Nat.reduceEqDiff, Nat.reduceMul, Nat.reduceSub, reduceIte, reduceCtorEq, fillQ, bne_iff_ne, Nat.reduceBNe, Nat.reduceBEq, rowsOf, cloL, clo, exists_eq_left', exists_and_left, appendQ, partsQ, Int.cast_ofNat_Int, Int.reduceBEq, Int.reduceBNe, Int.reduceLT, Int.reduceLE, Int.reduceEq, Int.reduceNe, Int.reduceAdd, Int.reduceSub, Int.reduceNeg, Int.reduceToNat, decide_true, decide_false, ne_eq, not_false_eq_true, true_and, and_true, Nat.add_zero, Nat.zero_add, Nat.not_lt_zero, Bool.not_true, Bool.not_false, Int.le_refl, bA, bB, ti3, ti28, ti31, ti33, hopRow, polRow, segRow, intRow, rowLen_ints, rowLen_nil, rowLen_cons, rowLen_append, List.length_append, byteRow, rowLen_bytes, bytesOf_map, bytesOf_cons, bytesOf_one, rowLen_strs, asRow, lkRow, tpRow, rowLen_hops, rowLen_ases, rowLen_links, bcRow, rowLen_bcs, u8Row, intRow, byteRow, List.take_length])
    exact ⟨rfl, rfl, by simp⟩

theorem dropE_s (l : List Bc) (now : Int) (hl : l.length ≤ 1048576) (hx : ∀ b ∈ l, b.seg.hops.length ≤ 1048576) : ACall Try.prog 24 [.sl (l.map bcRow), .int .i64 now] (.fs 0) [(dropE l now).map bcRow] := by
  refine acall_mk Try.func24 rfl Try.ntmps24 Try.results24 (by kernel_rfl) (by simp) ?_
  simp only [args, Nat.zero_add, Nat.reduceAdd]
  repeat' (first | with_reducible refine go ?_ | with_reducible refine t_region fun KT hT => ?_ | (refine gp fun KK hK => ?_; first | (refine ⟨by first | exact eq_hop | exact eq_pol, ?_⟩; (first | refine hK _ _ ?_ | refine hK _ (nz ?_)); clear hK KK) | ((repeat refine And.intro (by first | omega | (rw [getD_map_lt (by omega)]; rfl) | (simp; first | done | omega)) ?_); first | (refine hK _ _ ?_; clear hK KK) | (refine hK _ ?_; clear hK KK; try simp only [upd_mk]))) | ((with_reducible first | refine o_nil (hT _ _ ?_) | refine h_nil (hT _ ?_)); clear hT KT) | ((first | refine gd fun AA BB hA hB => ?_ | refine tc fun AA BB hA hB => ?_); first | (refine go ?_; (first | refine hA ?_ | refine hB ?_); clear hA hB AA BB) | (refine go2 ?_ ?_ <;> intro hb <;> (first | refine hA ?_ | refine hB ?_) <;> clear hA hB AA BB <;> (try simp only [hb, decide_true, decide_false]) <;> (try (exfalso; first | (simp at hb; done) | (simp at hb; omega))))) | (with_reducible refine skS ?_; simp only [upd_mk]) | with_reducible refine tdr fun KT hT => ?_ | with_reducible refine bY ?_)
  refine t_loop (fun k : Nat => [(0, .sl (l.map bcRow)), (1, .int .i64 now), (6, .int .i64 k), (5, .fs 99)]) (fun k => [(99, .row ((dropE (l.take k) now).map bcRow))]) (fun k => k ≤ l.length) (fun k => l.length - k) 0 (imp_move 5 7 99 rfl rfl rfl (imp_keep (by simp [Keep, mk, scrP, scr]) (by simp [KeepT, mkT, del, scrT, Ent.scr, scrL, scr, dropE]) rfl)) (Nat.zero_le _) ?_
  intro k hk
  rcases Nat.lt_or_ge k l.length with h | h
  · have e1 : decide ((k : Int) < (l.length : Int)) = true := by simpa using h
    have e2 := getD_map_lt (f := bcRow) h
    have cc := (copySeg_s l[k].seg (hx _ (List.getElem_mem h))).ro
    have ce := segExp_s l[k].seg (hx _ (List.getElem_mem h))
    have st := dropE_step l now k h
    have e5 := dropE_len (l.take k) now
    simp only [List.length_take] at e5
    simp only [view, viewL, tabOf, List.getElem?_cons_zero, Option.map_some, segRow] at cc
    simp only [bcRow] at e2
    simp only [segRow] at ce
    by_cases q : now ≤ leastEx l[k].seg.hops
    · rw [if_pos q] at st
      have e3 : decide (now ≤ leastEx l[k].seg.hops) = true := decide_eq_true q
      clear q
      generalize leastEx l[k].seg.hops = x at *
      generalize l[k] = g at *
      (have fx := And.intro (@e1) (And.intro (@e2) (And.intro (@e3) (And.intro (@h) (@rowLen_bcs))))
       repeat' (first | with_reducible refine go ?_ | with_reducible refine t_region fun KT hT => ?_ | (refine gp fun KK hK => ?_; first | ((with_reducible first | refine .inl ⟨_, _, ⟨cc, rfl, csq⟩, hK _ _ (nz ?_)⟩ | refine .inl ⟨_, _, ⟨ce, rfl, csq⟩, hK _ _ (nz ?_)⟩ | refine ⟨_, ⟨cc, rfl, rfl, csq⟩, hK _ (nz ?_)⟩ | refine ⟨_, ⟨ce, rfl, rfl, csq⟩, hK _ (nz ?_)⟩); clear hK KK) | (refine ⟨by first | exact eq_hop | exact eq_pol, ?_⟩; (first | refine hK _ _ ?_ | refine hK _ (nz ?_)); clear hK KK) | ((repeat refine And.intro (by first | omega | (rw [getD_map_lt (by omega)]; rfl) | (simp; first | done | omega)) ?_); first | (refine hK _ _ ?_; clear hK KK) | (refine hK _ ?_; clear hK KK; try simp only [upd_mk]))) | ((with_reducible first | refine o_nil (hT _ _ ?_) | refine h_nil (hT _ ?_)); clear hT KT) | (with_reducible first | refine ht_nil ?_ | refine dq_succ ?_ | refine dq_f ?_ | refine dq_t ?_) | ((first | refine gd fun AA BB hA hB => ?_ | refine tc fun AA BB hA hB => ?_); first | (refine go ?_; (first | refine hA ?_ | refine hB ?_); clear hA hB AA BB) | (refine go2 ?_ ?_ <;> intro hb <;> (first | refine hA ?_ | refine hB ?_) <;> clear hA hB AA BB <;> (try simp only [hb, decide_true, decide_false]) <;> (try (exfalso; first | (simp at hb; done) | (simp at hb; omega))))) | (with_reducible refine skS ?_; simp only [upd_mk]) | (refine tdT (id := 6) 14 fun KT hT => ?_) | with_reducible refine tdr fun KT hT => ?_ | with_reducible refine bY ?_)
       all_goals clear fx)
      refine k_rnd (k + 1) (imp_drop 35 (imp_keep ?_ ?_ rfl)) h (by omega)
      · simp [Keep, mk, scrP, scr, wrapS (show k < 4611686018427387904 by omega)]
      · simp only [KeepT, mkT, del, scrT, Ent.scr, scrL, scr, Nat.reduceEqDiff, reduceIte, Nat.reduceMul, Nat.reduceAdd]
        simp [st]
    · rw [if_neg q, List.append_nil] at st
      have e3 : decide (now ≤ leastEx l[k].seg.hops) = false := decide_eq_false q
      clear q
      generalize leastEx l[k].seg.hops = x at *
      generalize l[k] = g at *
      (have fx := And.intro (@e1) (And.intro (@e2) (And.intro (@e3) (And.intro (@h) (@rowLen_bcs))))
       repeat' (first | with_reducible refine go ?_ | with_reducible refine t_region fun KT hT => ?_ | (refine gp fun KK hK => ?_; first | ((with_reducible first | refine .inl ⟨_, _, ⟨cc, rfl, csq⟩, hK _ _ (nz ?_)⟩ | refine .inl ⟨_, _, ⟨ce, rfl, csq⟩, hK _ _ (nz ?_)⟩ | refine ⟨_, ⟨cc, rfl, rfl, csq⟩, hK _ (nz ?_)⟩ | refine ⟨_, ⟨ce, rfl, rfl, csq⟩, hK _ (nz ?_)⟩); clear hK KK) | (refine ⟨by first | exact eq_hop | exact eq_pol, ?_⟩; (first | refine hK _ _ ?_ | refine hK _ (nz ?_)); clear hK KK) | ((repeat refine And.intro (by first | omega | (rw [getD_map_lt (by omega)]; rfl) | (simp; first | done | omega)) ?_); first | (refine hK _ _ ?_; clear hK KK) | (refine hK _ ?_; clear hK KK; try simp only [upd_mk]))) | ((with_reducible first | refine o_nil (hT _ _ ?_) | refine h_nil (hT _ ?_)); clear hT KT) | (with_reducible first | refine ht_nil ?_ | refine dq_succ ?_ | refine dq_f ?_ | refine dq_t ?_) | ((first | refine gd fun AA BB hA hB => ?_ | refine tc fun AA BB hA hB => ?_); first | (refine go ?_; (first | refine hA ?_ | refine hB ?_); clear hA hB AA BB) | (refine go2 ?_ ?_ <;> intro hb <;> (first | refine hA ?_ | refine hB ?_) <;> clear hA hB AA BB <;> (try simp only [hb, decide_true, decide_false]) <;> (try (exfalso; first | (simp at hb; done) | (simp at hb; omega))))) | (with_reducible refine skS ?_; simp only [upd_mk]) | (refine tdT (id := 6) 14 fun KT hT => ?_) | with_reducible refine tdr fun KT hT => ?_ | with_reducible refine bY ?_)
       all_goals clear fx)
      refine k_rnd (k + 1) (imp_keep ?_ ?_ rfl) h (by omega)
      · simp [Keep, mk, scrP, scr, wrapS (show k < 4611686018427387904 by omega)]
      · simp [KeepT, mkT, del, scrT, Ent.scr, scrL, scr, st]
  · obtain rfl : k = l.length := by omega
    have e1 : decide ((l.length : Int) < (l.length : Int)) = false := by simp
    (have fx := (@e1)
     repeat' (first | with_reducible refine go ?_ | with_reducible refine t_region fun KT hT => ?_ | (refine gp fun KK hK => ?_; first | (refine ⟨by first | exact eq_hop | exact eq_pol, ?_⟩; (first | refine hK _ _ ?_ | refine hK _ (nz ?_)); clear hK KK) | ((repeat refine And.intro (by first | omega | (rw [getD_map_lt (by omega)]; rfl) | (simp; first | done | omega)) ?_); first | (refine hK _ _ ?_; clear hK KK) | (refine hK _ ?_; clear hK KK; try simp only [upd_mk]))) | ((with_reducible first | refine o_nil (hT _ _ ?_) | refine h_nil (hT _ ?_)); clear hT KT) | ((first | refine gd fun AA BB hA hB => ?_ | refine tc fun AA BB hA hB => ?_); first | (refine go ?_; (first | refine hA ?_ | refine hB ?_); clear hA hB AA BB) | (refine go2 ?_ ?_ <;> intro hb <;> (first | refine hA ?_ | refine hB ?_) <;> clear hA hB AA BB <;> (try simp only [hb, decide_true, decide_false]) <;> (try (exfalso; first | (simp at hb; done) | (simp at hb; omega))))) | (with_reducible refine skS ?_; simp only [upd_mk]) | with_reducible refine tdr fun KT hT => ?_ | with_reducible refine bY ?_)
     all_goals clear fx)
    (refine (fin_own [99] ?_).1; simp only [resQ, packD, OwnRes, callQ, viewL, view, noFsL, noFs, intsOf, Option.map_some, stp, hv, qv, ev, cD, scr, scrL, Ent.scr, flat, one, binQ, ldQ, storeQ, lay, Nat.reduceLT, Nat.reduceLeDiff, Nat.reduceAdd, Nat.reduceEqDiff, Nat.reduceMul, Nat.reduceSub, reduceIte, reduceCtorEq, fillQ, bne_iff_ne, Nat.reduceBNe, Nat.reduceBEq, rowsOf, cloL, clo, exists_eq_left', exists_and_left, appendQ, partsQ, Int.cast_ofNat_Int, Int.reduceBEq, Int.reduceBNe, Int.reduceLT, Int.reduceLE, Int.reduceEq, Int.reduceNe, Int.reduceAdd, Int.reduceSub, Int.reduceNeg, Int.reduceToNat, decide_true, decide_false, ne_eq, not_false_eq_true, true_and, and_true, Nat.add_zero, Nat.zero_add, Nat.not_lt_zero, Bool.not_true, Bool.not_false, Int.le_refl, bA, bB, ti3, ti28, ti31, ti33, hopRow, polRow, segRow, intRow, rowLen_ints, rowLen_nil, rowLen_cons, rowLen_append, List.length_append, byteRow, rowLen_bytes, bytesOf_map, bytesOf_cons, bytesOf_one, rowLen_strs, asRow, lkRow, tpRow, rowLen_hops, rowLen_ases, rowLen_links, bcRow, rowLen_bcs, u8Row, intRow, byteRow, List.take_length])
    exact ⟨rfl, rfl, by simp⟩

end Go.Proofs.Ytmiclkgkfkcnoaa
