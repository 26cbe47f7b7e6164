/- The functions of this program, walked by the evaluator: part w, 1. -/
import Derived.Test.YtmiclkgkfkcnoaaGreatLv1
import Derived.Test.YtmiclkgkfkcnoaaGreatLD
namespace Go.Proofs.YtmiclkgkfkcnoaaGreat
open Go.RowKit
set_option linter.unusedSimpArgs false
set_option linter.unusedVariables false
set_option maxRecDepth 100000
set_option linter.defProp false
namespace GLw1
def gx := And.intro (@hopRow.eq_1) (And.intro (@polRow.eq_1) (And.intro (@segRow.eq_1) (And.intro (@intRow.eq_1) (And.intro (@rowLen_ints) (And.intro (@rowLen_nil) (And.intro (@rowLen_cons) (And.intro (@rowLen_append) (And.intro (@lenL_app) (And.intro (@byteRow.eq_1) (And.intro (@rowLen_bytes) (And.intro (@bytesOf_map) (And.intro (@bytesOf_cons) (And.intro (@bytesOf_one) (And.intro (@rowLen_strs) (And.intro (@asRow.eq_1) (And.intro (@lkRow.eq_1) (And.intro (@tpRow.eq_1) (And.intro (@rowLen_hops) (And.intro (@rowLen_ases) (And.intro (@rowLen_links) (And.intro (@bcRow.eq_1) (And.intro (@rowLen_bcs) (@u8Row.eq_1)))))))))))))))))))))))
end GLw1
open GLw1
set_option maxHeartbeats 8000000 in
theorem egr_i (t : Tp) (p : Pl) (s : Sg) (r inn : Int) (h1 : t.ases.length ≤ 1048576) (h2 : t.links.length ≤ 1048576) (hl : s.hops.length ≤ 1048576) : ACall Tryz.prog 14 [.agg (tpRow t), .agg (polRow p), .agg (segRow s), .int .i64 r, .int .i64 inn] (.fs 0) [(egrIfs t p s r inn 6).map intRow] := by
  refine acall_mk Tryz.func14 rfl Tryz.ntmps14 Tryz.results14 (by kernel_rfl) (by simp) ?_
  simp only [args, Nat.zero_add, Nat.reduceAdd]
  repeat' (first | with_reducible refine go ?_ | with_reducible refine t_region fun KT hT => ?_ | (refine gp fun KK hK => ?_; first | (refine ⟨by first | exact eq_hop, ?_⟩; (first | refine hK _ _ ?_ | refine hK _ (nz ?_)); clear hK KK) | ((repeat refine And.intro (by first | omega | (rw [getD_map_lt (by omega)]; rfl) | (simp; first | done | omega)) ?_); first | (refine hK _ _ ?_; clear hK KK) | (refine hK _ ?_; clear hK KK; try simp only [upd_mk]))) | ((with_reducible first | refine o_nil (hT _ _ ?_) | refine h_nil (hT _ ?_)); clear hT KT) | ((first | refine gd fun AA BB hA hB => ?_ | refine tc fun AA BB hA hB => ?_); first | (refine go ?_; (first | refine hA ?_ | refine hB ?_); clear hA hB AA BB) | (refine go2 ?_ ?_ <;> intro hb <;> (first | refine hA ?_ | refine hB ?_) <;> clear hA hB AA BB <;> (try simp only [hb, decide_true, decide_false]) <;> (try (exfalso; first | (simp at hb; done) | (simp at hb; omega))))) | (with_reducible refine skS ?_; simp only [upd_mk]) | with_reducible refine tdr fun KT hT => ?_ | with_reducible refine bY ?_)
  refine t_loop (fun k : Nat => [(3, .int .i64 r), (4, .int .i64 inn), (5, .ptr 5 0 0), (6, .ptr 6 0 0), (7, .ptr 7 0 0), (11, .fs 99), (12, .int .i64 (1 + (k : Int)))]) (fun k => [(99, .row ((egrIfs t p s r inn k).map intRow)), (7, .box (segRow s)), (6, .box (polRow p)), (5, .box (tpRow t))]) (fun k => k ≤ 6) (fun k => 6 - k) 0 (imp_nil 11 99 rfl rfl (imp_keep (by simp [Keep, mk]) (by simp [KeepT, mkT, egrIfs]) rfl)) (Nat.zero_le _) ?_
  intro k hk
  have hlen := egrIfs_len t p s r inn k
  have ha : (ases s.hops).length ≤ 16777216 := by simp only [ases, List.length_map]; omega
  rcases Nat.lt_or_ge k 6 with h | h
  · have e1 : decide (1 + (k : Int) ≤ 6) = true := decide_eq_true (by omega)
    have w1 : IntKind.i64.wrap (1 + (k : Int) + 1) = 1 + ((k + 1 : Nat) : Int) := by rw [wr64 (by omega) (by omega)]; omega
    have st := egrIfs_step t p s r inn k
    have c := (ext_i t p s r inn (1 + (k : Int)) h1 h2 hl).ro
    simp only [view, viewL, tabOf, List.getElem?_cons_zero, List.getElem?_cons_succ, Option.map_some] at c
    have eg : egrOk t p s r inn (1 + (k : Int)) = (extOk t p s r inn (1 + (k : Int)) && ((remote t r (1 + (k : Int))).1 != r) && !hasI (ases s.hops) (remote t r (1 + (k : Int))).1) := rfl
    rcases Bool.eq_false_or_eq_true (extOk t p s r inn (1 + (k : Int))) with b1 | b1
    · rw [b1] at c eg
      rcases Bool.eq_false_or_eq_true ((remote t r (1 + (k : Int))).1 != r) with q1 | q1
      · rw [q1] at eg
        rcases Bool.eq_false_or_eq_true (hasI (ases s.hops) (remote t r (1 + (k : Int))).1) with q2 | q2
        · rw [q2] at eg
          rw [eg, if_neg (by simp), List.append_nil] at st
          (have fx := And.intro (@e1) (And.intro (@w1) (And.intro (@q1) (@q2)))
           repeat' (first | with_reducible refine go ?_ | with_reducible refine t_region fun KT hT => ?_ | (refine gp fun KK hK => ?_; first | ((with_reducible first | refine .inl ⟨_, _, ⟨c, rfl, csq⟩, hK _ _ (nz ?_)⟩ | refine .inl ⟨_, _, ⟨remote_i t r _ h2, rfl, csq⟩, hK _ _ (nz ?_)⟩ | refine .inl ⟨_, _, ⟨ases_i s hl, rfl, csq⟩, hK _ _ (nz ?_)⟩ | refine .inl ⟨_, _, ⟨hasI_i (ases s.hops) _ ha, rfl, csq⟩, hK _ _ (nz ?_)⟩ | refine ⟨_, ⟨c, rfl, rfl, csq⟩, hK _ (nz ?_)⟩ | refine ⟨_, ⟨remote_i t r _ h2, rfl, rfl, csq⟩, hK _ (nz ?_)⟩ | refine ⟨_, ⟨ases_i s hl, rfl, rfl, csq⟩, hK _ (nz ?_)⟩ | refine ⟨_, ⟨hasI_i (ases s.hops) _ ha, rfl, rfl, csq⟩, hK _ (nz ?_)⟩); clear hK KK) | (refine ⟨by first | exact eq_hop, ?_⟩; (first | refine hK _ _ ?_ | refine hK _ (nz ?_)); clear hK KK) | ((repeat refine And.intro (by first | omega | (rw [getD_map_lt (by omega)]; rfl) | (simp; first | done | omega)) ?_); first | (refine hK _ _ ?_; clear hK KK) | (refine hK _ ?_; clear hK KK; try simp only [upd_mk]))) | ((with_reducible first | refine o_nil (hT _ _ ?_) | refine h_nil (hT _ ?_)); clear hT KT) | ((first | refine gd fun AA BB hA hB => ?_ | refine tc fun AA BB hA hB => ?_); first | (refine go ?_; (first | refine hA ?_ | refine hB ?_); clear hA hB AA BB) | (refine go2 ?_ ?_ <;> intro hb <;> (first | refine hA ?_ | refine hB ?_) <;> clear hA hB AA BB <;> (try simp only [hb, decide_true, decide_false]) <;> (try (exfalso; first | (simp at hb; done) | (simp at hb; omega))))) | (with_reducible refine skS ?_; simp only [upd_mk]) | with_reducible refine tdr fun KT hT => ?_ | with_reducible refine bY ?_)
           all_goals clear fx)
          refine k_rnd (k + 1) (imp_drop 13 (imp_drop 1046 (imp_drop 53 (imp_keep ?_ ?_ rfl)))) h (by omega)
          · simp [Keep, mk, scrP, scr, del]
          · simp only [KeepT, mkT, del, scrT, Ent.scr, scrL, scr, if_true, and_true, reduceIte, Nat.reduceEqDiff, st]
            try simp
        · rw [q2] at eg
          rw [eg, if_pos (by rfl)] at st
          (have fx := And.intro (@e1) (And.intro (@w1) (And.intro (@q1) (@q2)))
           repeat' (first | with_reducible refine go ?_ | with_reducible refine t_region fun KT hT => ?_ | (refine gp fun KK hK => ?_; first | ((with_reducible first | refine .inl ⟨_, _, ⟨c, rfl, csq⟩, hK _ _ (nz ?_)⟩ | refine .inl ⟨_, _, ⟨remote_i t r _ h2, rfl, csq⟩, hK _ _ (nz ?_)⟩ | refine .inl ⟨_, _, ⟨ases_i s hl, rfl, csq⟩, hK _ _ (nz ?_)⟩ | refine .inl ⟨_, _, ⟨hasI_i (ases s.hops) _ ha, rfl, csq⟩, hK _ _ (nz ?_)⟩ | refine ⟨_, ⟨c, rfl, rfl, csq⟩, hK _ (nz ?_)⟩ | refine ⟨_, ⟨remote_i t r _ h2, rfl, rfl, csq⟩, hK _ (nz ?_)⟩ | refine ⟨_, ⟨ases_i s hl, rfl, rfl, csq⟩, hK _ (nz ?_)⟩ | refine ⟨_, ⟨hasI_i (ases s.hops) _ ha, rfl, rfl, csq⟩, hK _ (nz ?_)⟩); clear hK KK) | (refine ⟨by first | exact eq_hop, ?_⟩; (first | refine hK _ _ ?_ | refine hK _ (nz ?_)); clear hK KK) | ((repeat refine And.intro (by first | omega | (rw [getD_map_lt (by omega)]; rfl) | (simp; first | done | omega)) ?_); first | (refine hK _ _ ?_; clear hK KK) | (refine hK _ ?_; clear hK KK; try simp only [upd_mk]))) | ((with_reducible first | refine o_nil (hT _ _ ?_) | refine h_nil (hT _ ?_)); clear hT KT) | ((first | refine gd fun AA BB hA hB => ?_ | refine tc fun AA BB hA hB => ?_); first | (refine go ?_; (first | refine hA ?_ | refine hB ?_); clear hA hB AA BB) | (refine go2 ?_ ?_ <;> intro hb <;> (first | refine hA ?_ | refine hB ?_) <;> clear hA hB AA BB <;> (try simp only [hb, decide_true, decide_false]) <;> (try (exfalso; first | (simp at hb; done) | (simp at hb; omega))))) | (with_reducible refine skS ?_; simp only [upd_mk]) | with_reducible refine tdr fun KT hT => ?_ | with_reducible refine bY ?_)
           all_goals clear fx)
          refine k_rnd (k + 1) (imp_drop 13 (imp_drop 1046 (imp_drop 53 (imp_keep ?_ ?_ rfl)))) h (by omega)
          · simp [Keep, mk, scrP, scr, del]
          · simp only [KeepT, mkT, del, scrT, Ent.scr, scrL, scr, if_true, and_true, reduceIte, Nat.reduceEqDiff, st, intRow_app]
            try simp
      · rw [q1] at eg
        rw [eg, if_neg (by simp), List.append_nil] at st
        (have fx := And.intro (@e1) (And.intro (@w1) (@q1))
         repeat' (first | with_reducible refine go ?_ | with_reducible refine t_region fun KT hT => ?_ | (refine gp fun KK hK => ?_; first | ((with_reducible first | refine .inl ⟨_, _, ⟨c, rfl, csq⟩, hK _ _ (nz ?_)⟩ | refine .inl ⟨_, _, ⟨remote_i t r _ h2, rfl, csq⟩, hK _ _ (nz ?_)⟩ | refine ⟨_, ⟨c, rfl, rfl, csq⟩, hK _ (nz ?_)⟩ | refine ⟨_, ⟨remote_i t r _ h2, rfl, rfl, csq⟩, hK _ (nz ?_)⟩); clear hK KK) | (refine ⟨by first | exact eq_hop, ?_⟩; (first | refine hK _ _ ?_ | refine hK _ (nz ?_)); clear hK KK) | ((repeat refine And.intro (by first | omega | (rw [getD_map_lt (by omega)]; rfl) | (simp; first | done | omega)) ?_); first | (refine hK _ _ ?_; clear hK KK) | (refine hK _ ?_; clear hK KK; try simp only [upd_mk]))) | ((with_reducible first | refine o_nil (hT _ _ ?_) | refine h_nil (hT _ ?_)); clear hT KT) | ((first | refine gd fun AA BB hA hB => ?_ | refine tc fun AA BB hA hB => ?_); first | (refine go ?_; (first | refine hA ?_ | refine hB ?_); clear hA hB AA BB) | (refine go2 ?_ ?_ <;> intro hb <;> (first | refine hA ?_ | refine hB ?_) <;> clear hA hB AA BB <;> (try simp only [hb, decide_true, decide_false]) <;> (try (exfalso; first | (simp at hb; done) | (simp at hb; omega))))) | (with_reducible refine skS ?_; simp only [upd_mk]) | with_reducible refine tdr fun KT hT => ?_ | with_reducible refine bY ?_)
         all_goals clear fx)
        refine k_rnd (k + 1) (imp_drop 13 (imp_drop 1046 (imp_drop 53 (imp_keep ?_ ?_ rfl)))) h (by omega)
        · simp [Keep, mk, scrP, scr, del]
        · simp only [KeepT, mkT, del, scrT, Ent.scr, scrL, scr, if_true, and_true, reduceIte, Nat.reduceEqDiff, st]
          try simp
    · rw [b1] at c eg
      rw [eg, if_neg (by simp), List.append_nil] at st
      (have fx := And.intro (@e1) (@w1)
       repeat' (first | with_reducible refine go ?_ | with_reducible refine t_region fun KT hT => ?_ | (refine gp fun KK hK => ?_; first | ((with_reducible first | refine .inl ⟨_, _, ⟨c, rfl, csq⟩, hK _ _ (nz ?_)⟩ | refine .inl ⟨_, _, ⟨remote_i t r _ h2, rfl, csq⟩, hK _ _ (nz ?_)⟩ | refine ⟨_, ⟨c, rfl, rfl, csq⟩, hK _ (nz ?_)⟩ | refine ⟨_, ⟨remote_i t r _ h2, rfl, rfl, csq⟩, hK _ (nz ?_)⟩); clear hK KK) | (refine ⟨by first | exact eq_hop, ?_⟩; (first | refine hK _ _ ?_ | refine hK _ (nz ?_)); clear hK KK) | ((repeat refine And.intro (by first | omega | (rw [getD_map_lt (by omega)]; rfl) | (simp; first | done | omega)) ?_); first | (refine hK _ _ ?_; clear hK KK) | (refine hK _ ?_; clear hK KK; try simp only [upd_mk]))) | ((with_reducible first | refine o_nil (hT _ _ ?_) | refine h_nil (hT _ ?_)); clear hT KT) | ((first | refine gd fun AA BB hA hB => ?_ | refine tc fun AA BB hA hB => ?_); first | (refine go ?_; (first | refine hA ?_ | refine hB ?_); clear hA hB AA BB) | (refine go2 ?_ ?_ <;> intro hb <;> (first | refine hA ?_ | refine hB ?_) <;> clear hA hB AA BB <;> (try simp only [hb, decide_true, decide_false]) <;> (try (exfalso; first | (simp at hb; done) | (simp at hb; omega))))) | (with_reducible refine skS ?_; simp only [upd_mk]) | with_reducible refine tdr fun KT hT => ?_ | with_reducible refine bY ?_)
       all_goals clear fx)
      refine k_rnd (k + 1) (imp_drop 13 (imp_drop 1046 (imp_drop 53 (imp_keep ?_ ?_ rfl)))) h (by omega)
      · simp [Keep, mk, scrP, scr, del]
      · simp only [KeepT, mkT, del, scrT, Ent.scr, scrL, scr, if_true, and_true, reduceIte, Nat.reduceEqDiff, st]
        try simp
  · obtain rfl : k = 6 := by omega
    have e1 : decide (1 + ((6 : Nat) : Int) ≤ 6) = false := by decide
    (have fx := (@e1)
     repeat' (first | with_reducible refine go ?_ | with_reducible refine t_region fun KT hT => ?_ | (refine gp fun KK hK => ?_; first | (refine ⟨by first | exact eq_hop, ?_⟩; (first | refine hK _ _ ?_ | refine hK _ (nz ?_)); clear hK KK) | ((repeat refine And.intro (by first | omega | (rw [getD_map_lt (by omega)]; rfl) | (simp; first | done | omega)) ?_); first | (refine hK _ _ ?_; clear hK KK) | (refine hK _ ?_; clear hK KK; try simp only [upd_mk]))) | ((with_reducible first | refine o_nil (hT _ _ ?_) | refine h_nil (hT _ ?_)); clear hT KT) | ((first | refine gd fun AA BB hA hB => ?_ | refine tc fun AA BB hA hB => ?_); first | (refine go ?_; (first | refine hA ?_ | refine hB ?_); clear hA hB AA BB) | (refine go2 ?_ ?_ <;> intro hb <;> (first | refine hA ?_ | refine hB ?_) <;> clear hA hB AA BB <;> (try simp only [hb, decide_true, decide_false]) <;> (try (exfalso; first | (simp at hb; done) | (simp at hb; omega))))) | (with_reducible refine skS ?_; simp only [upd_mk]) | with_reducible refine tdr fun KT hT => ?_ | with_reducible refine bY ?_)
     all_goals clear fx)
    (refine fo [99] ?_; try exact trivial)
    exact ⟨rfl, rfl, by simp⟩

set_option maxHeartbeats 8000000 in
theorem egr_s (t : Tp) (p : Pl) (s : Sg) (r inn : Int) (h1 : t.ases.length ≤ 1048576) (h2 : t.links.length ≤ 1048576) (hl : s.hops.length ≤ 1048576) : ACall Tryz.prog 15 [.agg (tpRow t), .agg (polRow p), .agg (segRow s), .int .i64 r, .int .i64 inn] (.fs 0) [(egrIfs t p s r inn 6).map intRow] := by
  refine acall_mk Tryz.func15 rfl Tryz.ntmps15 Tryz.results15 (by kernel_rfl) (by simp) ?_
  simp only [args, Nat.zero_add, Nat.reduceAdd]
  repeat' (first | with_reducible refine go ?_ | with_reducible refine t_region fun KT hT => ?_ | (refine gp fun KK hK => ?_; first | (refine ⟨by first | exact eq_hop, ?_⟩; (first | refine hK _ _ ?_ | refine hK _ (nz ?_)); clear hK KK) | ((repeat refine And.intro (by first | omega | (rw [getD_map_lt (by omega)]; rfl) | (simp; first | done | omega)) ?_); first | (refine hK _ _ ?_; clear hK KK) | (refine hK _ ?_; clear hK KK; try simp only [upd_mk]))) | ((with_reducible first | refine o_nil (hT _ _ ?_) | refine h_nil (hT _ ?_)); clear hT KT) | ((first | refine gd fun AA BB hA hB => ?_ | refine tc fun AA BB hA hB => ?_); first | (refine go ?_; (first | refine hA ?_ | refine hB ?_); clear hA hB AA BB) | (refine go2 ?_ ?_ <;> intro hb <;> (first | refine hA ?_ | refine hB ?_) <;> clear hA hB AA BB <;> (try simp only [hb, decide_true, decide_false]) <;> (try (exfalso; first | (simp at hb; done) | (simp at hb; omega))))) | (with_reducible refine skS ?_; simp only [upd_mk]) | with_reducible refine tdr fun KT hT => ?_ | with_reducible refine bY ?_)
  refine t_loop (fun k : Nat => [(3, .int .i64 r), (4, .int .i64 inn), (5, .ptr 5 0 0), (6, .ptr 6 0 0), (7, .ptr 7 0 0), (11, .fs 99), (12, .int .i64 (1 + (k : Int)))]) (fun k => [(99, .row ((egrIfs t p s r inn k).map intRow)), (7, .box (segRow s)), (6, .box (polRow p)), (5, .box (tpRow t))]) (fun k => k ≤ 6) (fun k => 6 - k) 0 (imp_move 11 17 99 rfl rfl rfl (imp_keep (by simp [Keep, mk, scrP, scr]) (by simp [KeepT, mkT, del, scrT, Ent.scr, scrL, scr, egrIfs]) rfl)) (Nat.zero_le _) ?_
  intro k hk
  have hlen := egrIfs_len t p s r inn k
  have ha : (ases s.hops).length ≤ 16777216 := by simp only [ases, List.length_map]; omega
  rcases Nat.lt_or_ge k 6 with h | h
  · have e1 : decide (1 + (k : Int) ≤ 6) = true := decide_eq_true (by omega)
    have w1 : IntKind.i64.wrap (1 + (k : Int) + 1) = 1 + ((k + 1 : Nat) : Int) := by rw [wr64 (by omega) (by omega)]; omega
    have st := egrIfs_step t p s r inn k
    have c := (ext_s t p s r inn (1 + (k : Int)) h1 h2 hl).ro
    simp only [view, viewL, tabOf, List.getElem?_cons_zero, List.getElem?_cons_succ, Option.map_some] at c
    have eg : egrOk t p s r inn (1 + (k : Int)) = (extOk t p s r inn (1 + (k : Int)) && ((remote t r (1 + (k : Int))).1 != r) && !hasI (ases s.hops) (remote t r (1 + (k : Int))).1) := rfl
    rcases Bool.eq_false_or_eq_true (extOk t p s r inn (1 + (k : Int))) with b1 | b1
    · rw [b1] at c eg
      rcases Bool.eq_false_or_eq_true ((remote t r (1 + (k : Int))).1 != r) with q1 | q1
      · rw [q1] at eg
        rcases Bool.eq_false_or_eq_true (hasI (ases s.hops) (remote t r (1 + (k : Int))).1) with q2 | q2
        · rw [q2] at eg
          rw [eg, if_neg (by simp), List.append_nil] at st
          (have fx := And.intro (@e1) (And.intro (@w1) (And.intro (@q1) (@q2)))
           repeat' (first | with_reducible refine go ?_ | with_reducible refine t_region fun KT hT => ?_ | (refine gp fun KK hK => ?_; first | ((with_reducible first | refine .inl ⟨_, _, ⟨c, rfl, csq⟩, hK _ _ (nz ?_)⟩ | refine .inl ⟨_, _, ⟨remote_s t r _ h2, rfl, csq⟩, hK _ _ (nz ?_)⟩ | refine .inl ⟨_, _, ⟨ases_s s hl, rfl, csq⟩, hK _ _ (nz ?_)⟩ | refine .inl ⟨_, _, ⟨hasI_s (ases s.hops) _ ha, rfl, csq⟩, hK _ _ (nz ?_)⟩ | refine ⟨_, ⟨c, rfl, rfl, csq⟩, hK _ (nz ?_)⟩ | refine ⟨_, ⟨remote_s t r _ h2, rfl, rfl, csq⟩, hK _ (nz ?_)⟩ | refine ⟨_, ⟨ases_s s hl, rfl, rfl, csq⟩, hK _ (nz ?_)⟩ | refine ⟨_, ⟨hasI_s (ases s.hops) _ ha, rfl, rfl, csq⟩, hK _ (nz ?_)⟩); clear hK KK) | (refine ⟨by first | exact eq_hop, ?_⟩; (first | refine hK _ _ ?_ | refine hK _ (nz ?_)); clear hK KK) | ((repeat refine And.intro (by first | omega | (rw [getD_map_lt (by omega)]; rfl) | (simp; first | done | omega)) ?_); first | (refine hK _ _ ?_; clear hK KK) | (refine hK _ ?_; clear hK KK; try simp only [upd_mk]))) | ((with_reducible first | refine o_nil (hT _ _ ?_) | refine h_nil (hT _ ?_)); clear hT KT) | ((first | refine gd fun AA BB hA hB => ?_ | refine tc fun AA BB hA hB => ?_); first | (refine go ?_; (first | refine hA ?_ | refine hB ?_); clear hA hB AA BB) | (refine go2 ?_ ?_ <;> intro hb <;> (first | refine hA ?_ | refine hB ?_) <;> clear hA hB AA BB <;> (try simp only [hb, decide_true, decide_false]) <;> (try (exfalso; first | (simp at hb; done) | (simp at hb; omega))))) | (with_reducible refine skS ?_; simp only [upd_mk]) | with_reducible refine tdr fun KT hT => ?_ | with_reducible refine bY ?_)
           all_goals clear fx)
          refine k_rnd (k + 1) (imp_drop 13 (imp_drop 1047 (imp_drop 54 (imp_keep ?_ ?_ rfl)))) h (by omega)
          · simp [Keep, mk, scrP, scr, del]
          · simp only [KeepT, mkT, del, scrT, Ent.scr, scrL, scr, if_true, and_true, reduceIte, Nat.reduceEqDiff, st]
            try simp
        · rw [q2] at eg
          rw [eg, if_pos (by rfl)] at st
          (have fx := And.intro (@e1) (And.intro (@w1) (And.intro (@q1) (@q2)))
           repeat' (first | with_reducible refine go ?_ | with_reducible refine t_region fun KT hT => ?_ | (refine gp fun KK hK => ?_; first | ((with_reducible first | refine .inl ⟨_, _, ⟨c, rfl, csq⟩, hK _ _ (nz ?_)⟩ | refine .inl ⟨_, _, ⟨remote_s t r _ h2, rfl, csq⟩, hK _ _ (nz ?_)⟩ | refine .inl ⟨_, _, ⟨ases_s s hl, rfl, csq⟩, hK _ _ (nz ?_)⟩ | refine .inl ⟨_, _, ⟨hasI_s (ases s.hops) _ ha, rfl, csq⟩, hK _ _ (nz ?_)⟩ | refine ⟨_, ⟨c, rfl, rfl, csq⟩, hK _ (nz ?_)⟩ | refine ⟨_, ⟨remote_s t r _ h2, rfl, rfl, csq⟩, hK _ (nz ?_)⟩ | refine ⟨_, ⟨ases_s s hl, rfl, rfl, csq⟩, hK _ (nz ?_)⟩ | refine ⟨_, ⟨hasI_s (ases s.hops) _ ha, rfl, rfl, csq⟩, hK _ (nz ?_)⟩); clear hK KK) | (refine ⟨by first | exact eq_hop, ?_⟩; (first | refine hK _ _ ?_ | refine hK _ (nz ?_)); clear hK KK) | ((repeat refine And.intro (by first | omega | (rw [getD_map_lt (by omega)]; rfl) | (simp; first | done | omega)) ?_); first | (refine hK _ _ ?_; clear hK KK) | (refine hK _ ?_; clear hK KK; try simp only [upd_mk]))) | ((with_reducible first | refine o_nil (hT _ _ ?_) | refine h_nil (hT _ ?_)); clear hT KT) | ((first | refine gd fun AA BB hA hB => ?_ | refine tc fun AA BB hA hB => ?_); first | (refine go ?_; (first | refine hA ?_ | refine hB ?_); clear hA hB AA BB) | (refine go2 ?_ ?_ <;> intro hb <;> (first | refine hA ?_ | refine hB ?_) <;> clear hA hB AA BB <;> (try simp only [hb, decide_true, decide_false]) <;> (try (exfalso; first | (simp at hb; done) | (simp at hb; omega))))) | (with_reducible refine skS ?_; simp only [upd_mk]) | with_reducible refine tdr fun KT hT => ?_ | with_reducible refine bY ?_)
           all_goals clear fx)
          refine k_rnd (k + 1) (imp_drop 13 (imp_drop 1047 (imp_drop 54 (imp_keep ?_ ?_ rfl)))) h (by omega)
          · simp [Keep, mk, scrP, scr, del]
          · simp only [KeepT, mkT, del, scrT, Ent.scr, scrL, scr, if_true, and_true, reduceIte, Nat.reduceEqDiff, st, intRow_app]
            try simp
      · rw [q1] at eg
        rw [eg, if_neg (by simp), List.append_nil] at st
        (have fx := And.intro (@e1) (And.intro (@w1) (@q1))
         repeat' (first | with_reducible refine go ?_ | with_reducible refine t_region fun KT hT => ?_ | (refine gp fun KK hK => ?_; first | ((with_reducible first | refine .inl ⟨_, _, ⟨c, rfl, csq⟩, hK _ _ (nz ?_)⟩ | refine .inl ⟨_, _, ⟨remote_s t r _ h2, rfl, csq⟩, hK _ _ (nz ?_)⟩ | refine ⟨_, ⟨c, rfl, rfl, csq⟩, hK _ (nz ?_)⟩ | refine ⟨_, ⟨remote_s t r _ h2, rfl, rfl, csq⟩, hK _ (nz ?_)⟩); clear hK KK) | (refine ⟨by first | exact eq_hop, ?_⟩; (first | refine hK _ _ ?_ | refine hK _ (nz ?_)); clear hK KK) | ((repeat refine And.intro (by first | omega | (rw [getD_map_lt (by omega)]; rfl) | (simp; first | done | omega)) ?_); first | (refine hK _ _ ?_; clear hK KK) | (refine hK _ ?_; clear hK KK; try simp only [upd_mk]))) | ((with_reducible first | refine o_nil (hT _ _ ?_) | refine h_nil (hT _ ?_)); clear hT KT) | ((first | refine gd fun AA BB hA hB => ?_ | refine tc fun AA BB hA hB => ?_); first | (refine go ?_; (first | refine hA ?_ | refine hB ?_); clear hA hB AA BB) | (refine go2 ?_ ?_ <;> intro hb <;> (first | refine hA ?_ | refine hB ?_) <;> clear hA hB AA BB <;> (try simp only [hb, decide_true, decide_false]) <;> (try (exfalso; first | (simp at hb; done) | (simp at hb; omega))))) | (with_reducible refine skS ?_; simp only [upd_mk]) | with_reducible refine tdr fun KT hT => ?_ | with_reducible refine bY ?_)
         all_goals clear fx)
        refine k_rnd (k + 1) (imp_drop 13 (imp_drop 1047 (imp_drop 54 (imp_keep ?_ ?_ rfl)))) h (by omega)
        · simp [Keep, mk, scrP, scr, del]
        · simp only [KeepT, mkT, del, scrT, Ent.scr, scrL, scr, if_true, and_true, reduceIte, Nat.reduceEqDiff, st]
          try simp
    · rw [b1] at c eg
      rw [eg, if_neg (by simp), List.append_nil] at st
      (have fx := And.intro (@e1) (@w1)
       repeat' (first | with_reducible refine go ?_ | with_reducible refine t_region fun KT hT => ?_ | (refine gp fun KK hK => ?_; first | ((with_reducible first | refine .inl ⟨_, _, ⟨c, rfl, csq⟩, hK _ _ (nz ?_)⟩ | refine .inl ⟨_, _, ⟨remote_s t r _ h2, rfl, csq⟩, hK _ _ (nz ?_)⟩ | refine ⟨_, ⟨c, rfl, rfl, csq⟩, hK _ (nz ?_)⟩ | refine ⟨_, ⟨remote_s t r _ h2, rfl, rfl, csq⟩, hK _ (nz ?_)⟩); clear hK KK) | (refine ⟨by first | exact eq_hop, ?_⟩; (first | refine hK _ _ ?_ | refine hK _ (nz ?_)); clear hK KK) | ((repeat refine And.intro (by first | omega | (rw [getD_map_lt (by omega)]; rfl) | (simp; first | done | omega)) ?_); first | (refine hK _ _ ?_; clear hK KK) | (refine hK _ ?_; clear hK KK; try simp only [upd_mk]))) | ((with_reducible first | refine o_nil (hT _ _ ?_) | refine h_nil (hT _ ?_)); clear hT KT) | ((first | refine gd fun AA BB hA hB => ?_ | refine tc fun AA BB hA hB => ?_); first | (refine go ?_; (first | refine hA ?_ | refine hB ?_); clear hA hB AA BB) | (refine go2 ?_ ?_ <;> intro hb <;> (first | refine hA ?_ | refine hB ?_) <;> clear hA hB AA BB <;> (try simp only [hb, decide_true, decide_false]) <;> (try (exfalso; first | (simp at hb; done) | (simp at hb; omega))))) | (with_reducible refine skS ?_; simp only [upd_mk]) | with_reducible refine tdr fun KT hT => ?_ | with_reducible refine bY ?_)
       all_goals clear fx)
      refine k_rnd (k + 1) (imp_drop 13 (imp_drop 1047 (imp_drop 54 (imp_keep ?_ ?_ rfl)))) h (by omega)
      · simp [Keep, mk, scrP, scr, del]
      · simp only [KeepT, mkT, del, scrT, Ent.scr, scrL, scr, if_true, and_true, reduceIte, Nat.reduceEqDiff, st]
        try simp
  · obtain rfl : k = 6 := by omega
    have e1 : decide (1 + ((6 : Nat) : Int) ≤ 6) = false := by decide
    (have fx := (@e1)
     repeat' (first | with_reducible refine go ?_ | with_reducible refine t_region fun KT hT => ?_ | (refine gp fun KK hK => ?_; first | (refine ⟨by first | exact eq_hop, ?_⟩; (first | refine hK _ _ ?_ | refine hK _ (nz ?_)); clear hK KK) | ((repeat refine And.intro (by first | omega | (rw [getD_map_lt (by omega)]; rfl) | (simp; first | done | omega)) ?_); first | (refine hK _ _ ?_; clear hK KK) | (refine hK _ ?_; clear hK KK; try simp only [upd_mk]))) | ((with_reducible first | refine o_nil (hT _ _ ?_) | refine h_nil (hT _ ?_)); clear hT KT) | ((first | refine gd fun AA BB hA hB => ?_ | refine tc fun AA BB hA hB => ?_); first | (refine go ?_; (first | refine hA ?_ | refine hB ?_); clear hA hB AA BB) | (refine go2 ?_ ?_ <;> intro hb <;> (first | refine hA ?_ | refine hB ?_) <;> clear hA hB AA BB <;> (try simp only [hb, decide_true, decide_false]) <;> (try (exfalso; first | (simp at hb; done) | (simp at hb; omega))))) | (with_reducible refine skS ?_; simp only [upd_mk]) | with_reducible refine tdr fun KT hT => ?_ | with_reducible refine bY ?_)
     all_goals clear fx)
    (refine fo [99] ?_; try exact trivial)
    exact ⟨rfl, rfl, by simp⟩

end Go.Proofs.YtmiclkgkfkcnoaaGreat
