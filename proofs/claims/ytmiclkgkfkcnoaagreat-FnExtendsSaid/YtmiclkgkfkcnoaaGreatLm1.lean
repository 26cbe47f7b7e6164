/- The functions of this program, walked by the evaluator: part m, 1. -/
import Derived.Test.YtmiclkgkfkcnoaaGreatLh1
import Derived.Test.YtmiclkgkfkcnoaaGreatLi1
import Derived.Test.YtmiclkgkfkcnoaaGreatLl1
import Derived.Test.YtmiclkgkfkcnoaaGreatLD
namespace Go.Proofs.YtmiclkgkfkcnoaaGreat
open Go.RowKit
set_option linter.unusedSimpArgs false
set_option linter.unusedVariables false
set_option maxRecDepth 100000
set_option linter.defProp false
namespace GLm1
def gx := And.intro (@hopRow.eq_1) (And.intro (@polRow.eq_1) (And.intro (@segRow.eq_1) (And.intro (@intRow.eq_1) (And.intro (@rowLen_ints) (And.intro (@rowLen_nil) (And.intro (@rowLen_cons) (And.intro (@rowLen_append) (And.intro (@lenL_app) (And.intro (@byteRow.eq_1) (And.intro (@rowLen_bytes) (And.intro (@bytesOf_map) (And.intro (@bytesOf_cons) (And.intro (@bytesOf_one) (And.intro (@rowLen_strs) (And.intro (@asRow.eq_1) (And.intro (@lkRow.eq_1) (And.intro (@tpRow.eq_1) (And.intro (@rowLen_hops) (And.intro (@rowLen_ases) (And.intro (@rowLen_links) (And.intro (@bcRow.eq_1) (@rowLen_bcs))))))))))))))))))))))
end GLm1
open GLm1
theorem hopsOk_i (t : Tp) (l : List Hp) (h1 : t.ases.length ≤ 1048576) (hl : l.length ≤ 1048576) : ACall Tryz.prog 72 [.agg (tpRow t), .sl (l.map hopRow)] (.bool (hopsOkF t l)) [] := by
  by_cases hr : inR l.length 1 8 = true
  · refine acall_mk Tryz.func72 rfl Tryz.ntmps72 Tryz.results72 (by kernel_rfl) (by simp) ?_
    simp only [args, Nat.zero_add, Nat.reduceAdd]
    (have fx := (@hr)
     repeat' (first | with_reducible refine go ?_ | with_reducible refine t_region fun KT hT => ?_ | (refine gp fun KK hK => ?_; first | ((with_reducible first | refine .inl ⟨_, _, ⟨inRange_i _ _ _, rfl, csq⟩, hK _ _ (nz ?_)⟩ | refine ⟨_, ⟨inRange_i _ _ _, rfl, rfl, csq⟩, hK _ (nz ?_)⟩); clear hK KK) | (refine ⟨by first | exact eq_hop, ?_⟩; (first | refine hK _ _ ?_ | refine hK _ (nz ?_)); clear hK KK) | ((repeat refine And.intro (by first | omega | (rw [getD_map_lt (by omega)]; rfl) | (simp; first | done | omega)) ?_); first | (refine hK _ _ ?_; clear hK KK) | (refine hK _ ?_; clear hK KK; try simp only [upd_mk]))) | ((with_reducible first | refine o_nil (hT _ _ ?_) | refine h_nil (hT _ ?_)); clear hT KT) | ((first | refine gd fun AA BB hA hB => ?_ | refine tc fun AA BB hA hB => ?_); first | (refine go ?_; (first | refine hA ?_ | refine hB ?_); clear hA hB AA BB) | (refine go2 ?_ ?_ <;> intro hb <;> (first | refine hA ?_ | refine hB ?_) <;> clear hA hB AA BB <;> (try simp only [hb, decide_true, decide_false]) <;> (try (exfalso; first | (simp at hb; done) | (simp at hb; omega))))) | (with_reducible refine skS ?_; simp only [upd_mk]) | with_reducible refine tdr fun KT hT => ?_ | with_reducible refine bY ?_)
     all_goals clear fx)
    refine t_loop (fun k : Nat => [(1, .sl (l.map hopRow)), (2, .ptr 2 0 0), (13, .sl (l.map hopRow)), (14, .int .i64 l.length), (15, .int .i64 k)]) (fun _ => [(2, .box (tpRow t))]) (fun k => k ≤ l.length ∧ allN (hopP t l) k = true) (fun k => l.length - k) 0 (imp_keep (by simp [Keep, mk]) (by simp [KeepT, mkT]) rfl) ⟨Nat.zero_le _, rfl⟩ ?_
    rintro k ⟨hk, ha⟩
    rcases Nat.lt_or_ge k l.length with h | h
    · have e1 : decide ((k : Int) < (l.length : Int)) = true := by simpa using h
      have e2 := getD_map_lt (f := hopRow) h
      have e3 : l.getD k hz = l[k] := getD_lt h
      have e5 : List.take k (l.map hopRow) = (l.take k).map hopRow := (List.map_take).symm
      have e6 : (l.take k).length = k := by simp; omega
      rcases Bool.eq_false_or_eq_true (validHop l[k]) with a1 | a1 <;> rcases Bool.eq_false_or_eq_true (realm t l[k].asn) with a2 | a2
      all_goals (have fx := And.intro (@e1) (And.intro (@e2) (And.intro (@e5) (And.intro (@e6) (And.intro (@h) (And.intro (@hk) (And.intro (@a1) (And.intro (@a2) (@Nat.zero_le))))))))
                 repeat' (first | with_reducible refine go ?_ | with_reducible refine t_region fun KT hT => ?_ | (refine gp fun KK hK => ?_; first | ((with_reducible first | refine .inl ⟨_, _, ⟨validHop_i l[k], rfl, csq⟩, hK _ _ (nz ?_)⟩ | refine .inl ⟨_, _, ⟨realm_i t _ h1, rfl, csq⟩, hK _ _ (nz ?_)⟩ | refine ⟨_, ⟨validHop_i l[k], rfl, rfl, csq⟩, hK _ (nz ?_)⟩ | refine ⟨_, ⟨realm_i t _ h1, rfl, rfl, csq⟩, hK _ (nz ?_)⟩); clear hK KK) | (refine ⟨by first | exact eq_hop, ?_⟩; (first | refine hK _ _ ?_ | refine hK _ (nz ?_)); clear hK KK) | ((repeat refine And.intro (by first | omega | (rw [getD_map_lt (by omega)]; rfl) | (simp; first | done | omega)) ?_); first | (refine hK _ _ ?_; clear hK KK) | (refine hK _ ?_; clear hK KK; try simp only [upd_mk]))) | ((with_reducible first | refine o_nil (hT _ _ ?_) | refine h_nil (hT _ ?_)); clear hT KT) | ((first | refine gd fun AA BB hA hB => ?_ | refine tc fun AA BB hA hB => ?_); first | (refine go ?_; (first | refine hA ?_ | refine hB ?_); clear hA hB AA BB) | (refine go2 ?_ ?_ <;> intro hb <;> (first | refine hA ?_ | refine hB ?_) <;> clear hA hB AA BB <;> (try simp only [hb, decide_true, decide_false]) <;> (try (exfalso; first | (simp at hb; done) | (simp at hb; omega))))) | (with_reducible refine skS ?_; simp only [upd_mk]) | with_reducible refine tdr fun KT hT => ?_ | with_reducible refine bY ?_)
                 all_goals clear fx)
      all_goals first | ((refine fe ?_; try exact trivial); rw [hopsOk_bad h (by simp only [hopP, e3, a1, a2, Bool.false_and, Bool.and_false, Bool.true_and])]; done) | skip
      generalize hg : l[k] = g at *
      refine t_loop (fun j : Nat => [(1, .sl (l.map hopRow)), (2, .ptr 2 0 0), (13, .sl (l.map hopRow)), (14, .int .i64 l.length), (15, .int .i64 k), (6, .ptr 6 0 0), (32, .sl ((l.take k).map hopRow)), (33, .int .i64 k), (34, .int .i64 j)]) (fun _ => [(6, .box (hopRow g)), (2, .box (tpRow t))]) (fun j => j ≤ k ∧ hasI (ases ((l.take k).take j)) g.asn = false) (fun j => k - j) 0 (imp_keep (by simp [Keep, mk]) (by simp [KeepT, mkT]) rfl) ⟨Nat.zero_le _, by simp [hasI, ases]⟩ ?_
      rintro j ⟨hj, hn⟩
      rcases Nat.lt_or_ge j k with h' | h'
      · have h'' : j < (l.take k).length := by omega
        have f1 : decide ((j : Int) < (k : Int)) = true := by simpa using h'
        have f2 := getD_map_lt (f := hopRow) h''
        generalize hm : l.take k = m at *
        (have fx := And.intro (@f1) (And.intro (@f2) (And.intro (@e6) (And.intro (@h') (@h''))))
         repeat' (first | with_reducible refine go ?_ | with_reducible refine t_region fun KT hT => ?_ | (refine gp fun KK hK => ?_; first | (refine ⟨by first | exact eq_hop, ?_⟩; (first | refine hK _ _ ?_ | refine hK _ (nz ?_)); clear hK KK) | ((repeat refine And.intro (by first | omega | (rw [getD_map_lt (by omega)]; rfl) | (simp; first | done | omega)) ?_); first | (refine hK _ _ ?_; clear hK KK) | (refine hK _ ?_; clear hK KK; try simp only [upd_mk]))) | ((with_reducible first | refine o_nil (hT _ _ ?_) | refine h_nil (hT _ ?_)); clear hT KT) | ((first | refine gd fun AA BB hA hB => ?_ | refine tc fun AA BB hA hB => ?_); first | (refine go ?_; (first | refine hA ?_ | refine hB ?_); clear hA hB AA BB) | (refine go2 ?_ ?_ <;> intro hb <;> (first | refine hA ?_ | refine hB ?_) <;> clear hA hB AA BB <;> (try simp only [hb, decide_true, decide_false]) <;> (try (exfalso; first | (simp at hb; done) | (simp at hb; omega))))) | (with_reducible refine skS ?_; simp only [upd_mk]) | with_reducible refine tdr fun KT hT => ?_ | with_reducible refine bY ?_)
         all_goals clear fx)
        · (refine fe ?_; try exact trivial)
          rw [hopsOk_bad h]
          simp only [hopP, e3, hm, hasI]
          rw [any_memA h'' hb]; simp
        · refine k_rnd (j + 1) (imp_drop 8 (imp_keep ?_ ?_ rfl)) ⟨h', ?_⟩ (by omega)
          · simp [Keep, mk, scrP, scr, wrapS (show j < 4611686018427387904 by omega)]
          · simp [KeepT, mkT, del, scrT, Ent.scr, scrL, scr]
          · simp only [hasI] at hn ⊢
            rw [any_stepA h'', hn, hb]; rfl
      · obtain rfl : j = k := by omega
        have f1 : decide ((j : Int) < (j : Int)) = false := by simp
        (have fx := (@f1)
         repeat' (first | with_reducible refine go ?_ | with_reducible refine t_region fun KT hT => ?_ | (refine gp fun KK hK => ?_; first | (refine ⟨by first | exact eq_hop, ?_⟩; (first | refine hK _ _ ?_ | refine hK _ (nz ?_)); clear hK KK) | ((repeat refine And.intro (by first | omega | (rw [getD_map_lt (by omega)]; rfl) | (simp; first | done | omega)) ?_); first | (refine hK _ _ ?_; clear hK KK) | (refine hK _ ?_; clear hK KK; try simp only [upd_mk]))) | ((with_reducible first | refine o_nil (hT _ _ ?_) | refine h_nil (hT _ ?_)); clear hT KT) | ((first | refine gd fun AA BB hA hB => ?_ | refine tc fun AA BB hA hB => ?_); first | (refine go ?_; (first | refine hA ?_ | refine hB ?_); clear hA hB AA BB) | (refine go2 ?_ ?_ <;> intro hb <;> (first | refine hA ?_ | refine hB ?_) <;> clear hA hB AA BB <;> (try simp only [hb, decide_true, decide_false]) <;> (try (exfalso; first | (simp at hb; done) | (simp at hb; omega))))) | (with_reducible refine skS ?_; simp only [upd_mk]) | with_reducible refine tdr fun KT hT => ?_ | with_reducible refine bY ?_)
         all_goals clear fx)
        refine k_rnd (j + 1) (imp_drop 6 (imp_keep ?_ ?_ rfl)) ⟨h, ?_⟩ (by omega)
        · simp [Keep, mk, scrP, scr, wrapS (show j < 4611686018427387904 by omega)]
        · simp [KeepT, mkT, del, scrT, Ent.scr, scrL, scr]
        · rw [List.take_take, Nat.min_self] at hn
          simp only [allN, ha, hopP, e3, a1, a2, hn]; rfl
    · obtain rfl : k = l.length := by omega
      have e1 : decide ((l.length : Int) < (l.length : Int)) = false := by simp
      (have fx := (@e1)
       repeat' (first | with_reducible refine go ?_ | with_reducible refine t_region fun KT hT => ?_ | (refine gp fun KK hK => ?_; first | (refine ⟨by first | exact eq_hop, ?_⟩; (first | refine hK _ _ ?_ | refine hK _ (nz ?_)); clear hK KK) | ((repeat refine And.intro (by first | omega | (rw [getD_map_lt (by omega)]; rfl) | (simp; first | done | omega)) ?_); first | (refine hK _ _ ?_; clear hK KK) | (refine hK _ ?_; clear hK KK; try simp only [upd_mk]))) | ((with_reducible first | refine o_nil (hT _ _ ?_) | refine h_nil (hT _ ?_)); clear hT KT) | ((first | refine gd fun AA BB hA hB => ?_ | refine tc fun AA BB hA hB => ?_); first | (refine go ?_; (first | refine hA ?_ | refine hB ?_); clear hA hB AA BB) | (refine go2 ?_ ?_ <;> intro hb <;> (first | refine hA ?_ | refine hB ?_) <;> clear hA hB AA BB <;> (try simp only [hb, decide_true, decide_false]) <;> (try (exfalso; first | (simp at hb; done) | (simp at hb; omega))))) | (with_reducible refine skS ?_; simp only [upd_mk]) | with_reducible refine tdr fun KT hT => ?_ | with_reducible refine bY ?_)
       all_goals clear fx)
      (refine fe ?_; try exact trivial)
      simp only [hopsOkF, hr, ha]; rfl
  · have hr' : inR l.length 1 8 = false := by simpa using hr
    refine acall_mk Tryz.func72 rfl Tryz.ntmps72 Tryz.results72 (by kernel_rfl) (by simp) ?_
    simp only [args, Nat.zero_add, Nat.reduceAdd]
    (have fx := (@hr')
     repeat' (first | with_reducible refine go ?_ | with_reducible refine t_region fun KT hT => ?_ | (refine gp fun KK hK => ?_; first | ((with_reducible first | refine .inl ⟨_, _, ⟨inRange_i _ _ _, rfl, csq⟩, hK _ _ (nz ?_)⟩ | refine ⟨_, ⟨inRange_i _ _ _, rfl, rfl, csq⟩, hK _ (nz ?_)⟩); clear hK KK) | (refine ⟨by first | exact eq_hop, ?_⟩; (first | refine hK _ _ ?_ | refine hK _ (nz ?_)); clear hK KK) | ((repeat refine And.intro (by first | omega | (rw [getD_map_lt (by omega)]; rfl) | (simp; first | done | omega)) ?_); first | (refine hK _ _ ?_; clear hK KK) | (refine hK _ ?_; clear hK KK; try simp only [upd_mk]))) | ((with_reducible first | refine o_nil (hT _ _ ?_) | refine h_nil (hT _ ?_)); clear hT KT) | ((first | refine gd fun AA BB hA hB => ?_ | refine tc fun AA BB hA hB => ?_); first | (refine go ?_; (first | refine hA ?_ | refine hB ?_); clear hA hB AA BB) | (refine go2 ?_ ?_ <;> intro hb <;> (first | refine hA ?_ | refine hB ?_) <;> clear hA hB AA BB <;> (try simp only [hb, decide_true, decide_false]) <;> (try (exfalso; first | (simp at hb; done) | (simp at hb; omega))))) | (with_reducible refine skS ?_; simp only [upd_mk]) | with_reducible refine tdr fun KT hT => ?_ | with_reducible refine bY ?_)
     all_goals clear fx)
    (refine fe ?_; try exact trivial)
    simp only [hopsOkF, hr']; rfl

set_option maxHeartbeats 4000000 in
theorem well_i (t : Tp) (s : Sg) (h1 : t.ases.length ≤ 1048576) (h2 : t.links.length ≤ 1048576) (hl : s.hops.length ≤ 1048576) : ACall Tryz.prog 49 [.agg (tpRow t), .agg (segRow s)] (.bool (wellF t s)) [] := by
  by_cases hr : hopsOkF t s.hops = true
  · have h0 := (hopsOk_len hr).1
    have e20 := getD_map_lt (f := hopRow) h0
    have e30 : s.hops.getD 0 hz = s.hops[0] := getD_lt h0
    have w1 := wrap1 (show s.hops.length < 4611686018427387904 by omega)
    rcases Bool.eq_false_or_eq_true (s.hops[0].ing == 0) with a0 | a0
    · have n0 : (s.hops[0].ing != 0) = false := by simp only [bne, a0, Bool.not_true]
      have hw : wellF t s = allN (lnkP t s.hops) s.hops.length := by simp only [wellF, hr, e30, a0, Bool.true_and]
      refine acall_mk Tryz.func49 rfl Tryz.ntmps49 Tryz.results49 (by kernel_rfl) (by simp) ?_
      simp only [args, Nat.zero_add, Nat.reduceAdd]
      (have fx := And.intro (@hr) (And.intro (@e20) (And.intro (@h0) (@n0)))
       repeat' (first | with_reducible refine go ?_ | with_reducible refine t_region fun KT hT => ?_ | (refine gp fun KK hK => ?_; first | ((with_reducible first | refine .inl ⟨_, _, ⟨hopsOk_i t s.hops h1 hl, rfl, csq⟩, hK _ _ (nz ?_)⟩ | refine ⟨_, ⟨hopsOk_i t s.hops h1 hl, rfl, rfl, csq⟩, hK _ (nz ?_)⟩); clear hK KK) | (refine ⟨by first | exact eq_hop, ?_⟩; (first | refine hK _ _ ?_ | refine hK _ (nz ?_)); clear hK KK) | ((repeat refine And.intro (by first | omega | (rw [getD_map_lt (by omega)]; rfl) | (simp; first | done | omega)) ?_); first | (refine hK _ _ ?_; clear hK KK) | (refine hK _ ?_; clear hK KK; try simp only [upd_mk]))) | ((with_reducible first | refine o_nil (hT _ _ ?_) | refine h_nil (hT _ ?_)); clear hT KT) | ((first | refine gd fun AA BB hA hB => ?_ | refine tc fun AA BB hA hB => ?_); first | (refine go ?_; (first | refine hA ?_ | refine hB ?_); clear hA hB AA BB) | (refine go2 ?_ ?_ <;> intro hb <;> (first | refine hA ?_ | refine hB ?_) <;> clear hA hB AA BB <;> (try simp only [hb, decide_true, decide_false]) <;> (try (exfalso; first | (simp at hb; done) | (simp at hb; omega))))) | (with_reducible refine skS ?_; simp only [upd_mk]) | with_reducible refine tdr fun KT hT => ?_ | with_reducible refine bY ?_)
       all_goals clear fx)
      rw [hw]
      refine t_loop (fun k : Nat => [(2, .ptr 2 0 0), (3, .ptr 3 0 0), (24, .sl (s.hops.map hopRow)), (25, .int .i64 s.hops.length), (26, .int .i64 k)]) (fun _ => [(3, .box (segRow s)), (2, .box (tpRow t))]) (fun k => k ≤ s.hops.length ∧ allN (lnkP t s.hops) k = true) (fun k => s.hops.length - k) 0 (imp_keep (by simp [Keep, mk]) (by simp [KeepT, mkT]) rfl) ⟨Nat.zero_le _, rfl⟩ ?_
      rintro k ⟨hk, ha⟩
      clear hw
      rcases Nat.lt_or_ge k s.hops.length with h | h
      · have e1 : decide ((k : Int) < (s.hops.length : Int)) = true := by simpa using h
        have e2 := getD_map_lt (f := hopRow) h
        have e3 : s.hops.getD k hz = s.hops[k] := getD_lt h
        rcases Bool.eq_false_or_eq_true ((s.hops[k].eg == 0) && decide ((k : Int) < (s.hops.length : Int) - 1)) with a1 | a1
        · obtain ⟨a2, a3⟩ := Bool.and_eq_true_iff.1 a1
          (have fx := And.intro (@e1) (And.intro (@e2) (And.intro (@h) (And.intro (@a2) (And.intro (@a3) (@w1)))))
           repeat' (first | with_reducible refine go ?_ | with_reducible refine t_region fun KT hT => ?_ | (refine gp fun KK hK => ?_; first | (refine ⟨by first | exact eq_hop, ?_⟩; (first | refine hK _ _ ?_ | refine hK _ (nz ?_)); clear hK KK) | ((repeat refine And.intro (by first | omega | (rw [getD_map_lt (by omega)]; rfl) | (simp; first | done | omega)) ?_); first | (refine hK _ _ ?_; clear hK KK) | (refine hK _ ?_; clear hK KK; try simp only [upd_mk]))) | ((with_reducible first | refine o_nil (hT _ _ ?_) | refine h_nil (hT _ ?_)); clear hT KT) | ((first | refine gd fun AA BB hA hB => ?_ | refine tc fun AA BB hA hB => ?_); first | (refine go ?_; (first | refine hA ?_ | refine hB ?_); clear hA hB AA BB) | (refine go2 ?_ ?_ <;> intro hb <;> (first | refine hA ?_ | refine hB ?_) <;> clear hA hB AA BB <;> (try simp only [hb, decide_true, decide_false]) <;> (try (exfalso; first | (simp at hb; done) | (simp at hb; omega))))) | (with_reducible refine skS ?_; simp only [upd_mk]) | with_reducible refine tdr fun KT hT => ?_ | with_reducible refine bY ?_)
           all_goals clear fx)
          (refine fe ?_; try exact trivial)
          rw [allN_bad (k := k) (by simp only [lnkP, e3, a2, a3, Bool.and_self, Bool.not_true, Bool.false_and]) h]
        · by_cases hk0 : k = 0
          · subst hk0
            have b3 : decide ((0 : Int) < 0) = false := by simp
            have e1' : decide ((0 : Int) < (s.hops.length : Int)) = true := decide_eq_true (by omega)
            rcases Bool.eq_false_or_eq_true (s.hops[0].eg == 0) with a2 | a2
            · have a3 : decide ((0 : Int) < (s.hops.length : Int) - 1) = false := by simpa [a2] using a1
              (have fx := And.intro (@e1) (And.intro (@e1') (And.intro (@e2) (And.intro (@h) (And.intro (@a2) (And.intro (@a3) (And.intro (@w1) (@b3)))))))
               repeat' (first | with_reducible refine go ?_ | with_reducible refine t_region fun KT hT => ?_ | (refine gp fun KK hK => ?_; first | (refine ⟨by first | exact eq_hop, ?_⟩; (first | refine hK _ _ ?_ | refine hK _ (nz ?_)); clear hK KK) | ((repeat refine And.intro (by first | omega | (rw [getD_map_lt (by omega)]; rfl) | (simp; first | done | omega)) ?_); first | (refine hK _ _ ?_; clear hK KK) | (refine hK _ ?_; clear hK KK; try simp only [upd_mk]))) | ((with_reducible first | refine o_nil (hT _ _ ?_) | refine h_nil (hT _ ?_)); clear hT KT) | ((first | refine gd fun AA BB hA hB => ?_ | refine tc fun AA BB hA hB => ?_); first | (refine go ?_; (first | refine hA ?_ | refine hB ?_); clear hA hB AA BB) | (refine go2 ?_ ?_ <;> intro hb <;> (first | refine hA ?_ | refine hB ?_) <;> clear hA hB AA BB <;> (try simp only [hb, decide_true, decide_false]) <;> (try (exfalso; first | (simp at hb; done) | (simp at hb; omega))))) | (with_reducible refine skS ?_; simp only [upd_mk]) | with_reducible refine tdr fun KT hT => ?_ | with_reducible refine bY ?_)
               all_goals clear fx)
              refine k_rnd (1 : Nat) (imp_drop 6 (imp_keep ?_ ?_ rfl)) ⟨h, ?_⟩ (by omega)
              · simp [Keep, mk, scrP, scr, wr64]
              · simp [KeepT, mkT, del, scrT, Ent.scr, scrL, scr]
              · simp only [allN, lnkP, e3, a1, Bool.not_false, Bool.true_and]; simp
            · (have fx := And.intro (@e1) (And.intro (@e1') (And.intro (@e2) (And.intro (@h) (And.intro (@a2) (And.intro (@w1) (@b3))))))
               repeat' (first | with_reducible refine go ?_ | with_reducible refine t_region fun KT hT => ?_ | (refine gp fun KK hK => ?_; first | (refine ⟨by first | exact eq_hop, ?_⟩; (first | refine hK _ _ ?_ | refine hK _ (nz ?_)); clear hK KK) | ((repeat refine And.intro (by first | omega | (rw [getD_map_lt (by omega)]; rfl) | (simp; first | done | omega)) ?_); first | (refine hK _ _ ?_; clear hK KK) | (refine hK _ ?_; clear hK KK; try simp only [upd_mk]))) | ((with_reducible first | refine o_nil (hT _ _ ?_) | refine h_nil (hT _ ?_)); clear hT KT) | ((first | refine gd fun AA BB hA hB => ?_ | refine tc fun AA BB hA hB => ?_); first | (refine go ?_; (first | refine hA ?_ | refine hB ?_); clear hA hB AA BB) | (refine go2 ?_ ?_ <;> intro hb <;> (first | refine hA ?_ | refine hB ?_) <;> clear hA hB AA BB <;> (try simp only [hb, decide_true, decide_false]) <;> (try (exfalso; first | (simp at hb; done) | (simp at hb; omega))))) | (with_reducible refine skS ?_; simp only [upd_mk]) | with_reducible refine tdr fun KT hT => ?_ | with_reducible refine bY ?_)
               all_goals clear fx)
              refine k_rnd (1 : Nat) (imp_drop 6 (imp_keep ?_ ?_ rfl)) ⟨h, ?_⟩ (by omega)
              · simp [Keep, mk, scrP, scr, wr64]
              · simp [KeepT, mkT, del, scrT, Ent.scr, scrL, scr]
              · simp only [allN, lnkP, e3, a1, Bool.not_false, Bool.true_and]; simp
          · have h' : k - 1 < s.hops.length := by omega
            have b3 : decide ((0 : Int) < (k : Int)) = true := decide_eq_true (by omega)
            have w2 := wrapP (show 0 < k by omega) (by omega)
            have e4 := getD_map_lt (f := hopRow) h'
            have e5 : s.hops.getD (k - 1) hz = s.hops[k - 1] := getD_lt h'
            have hP : lnkP t s.hops k = ((remote t s.hops[k - 1].asn s.hops[k - 1].eg).1 == s.hops[k].asn && (remote t s.hops[k - 1].asn s.hops[k - 1].eg).2 == s.hops[k].ing) := by
              simp only [lnkP, e3, e5, b3, a1, Bool.not_true, Bool.not_false, Bool.false_or, Bool.true_and]
            have c := remote_i t s.hops[k - 1].asn s.hops[k - 1].eg h2
            generalize remote t s.hops[k - 1].asn s.hops[k - 1].eg = q at *
            obtain ⟨q1, q2⟩ := q
            simp only at c hP
            rcases Bool.eq_false_or_eq_true (s.hops[k].eg == 0) with a2 | a2
            · have a3 : decide ((k : Int) < (s.hops.length : Int) - 1) = false := by rw [a2, Bool.true_and] at a1; exact a1
              (have fx := And.intro (@e1) (And.intro (@e2) (And.intro (@h) (And.intro (@a2) (And.intro (@a3) (And.intro (@w1) (And.intro (@b3) (And.intro (@w2) (And.intro (@e4) (@h')))))))))
               repeat' (first | with_reducible refine go ?_ | with_reducible refine t_region fun KT hT => ?_ | (refine gp fun KK hK => ?_; first | ((with_reducible first | refine .inl ⟨_, _, ⟨c, rfl, csq⟩, hK _ _ (nz ?_)⟩ | refine ⟨_, ⟨c, rfl, rfl, csq⟩, hK _ (nz ?_)⟩); clear hK KK) | (refine ⟨by first | exact eq_hop, ?_⟩; (first | refine hK _ _ ?_ | refine hK _ (nz ?_)); clear hK KK) | ((repeat refine And.intro (by first | omega | (rw [getD_map_lt (by omega)]; rfl) | (simp; first | done | omega)) ?_); first | (refine hK _ _ ?_; clear hK KK) | (refine hK _ ?_; clear hK KK; try simp only [upd_mk]))) | ((with_reducible first | refine o_nil (hT _ _ ?_) | refine h_nil (hT _ ?_)); clear hT KT) | ((first | refine gd fun AA BB hA hB => ?_ | refine tc fun AA BB hA hB => ?_); first | (refine go ?_; (first | refine hA ?_ | refine hB ?_); clear hA hB AA BB) | (refine go2 ?_ ?_ <;> intro hb <;> (first | refine hA ?_ | refine hB ?_) <;> clear hA hB AA BB <;> (try simp only [hb, decide_true, decide_false]) <;> (try (exfalso; first | (simp at hb; done) | (simp at hb; omega))))) | (with_reducible refine skS ?_; simp only [upd_mk]) | with_reducible refine tdr fun KT hT => ?_ | with_reducible refine bY ?_)
               all_goals clear fx)
              all_goals first
                | ((refine fe ?_; try exact trivial); rw [allN_bad (k := k) (by rw [hP]; simp_all) h]; done)
                | (refine k_rnd (k + 1) (imp_drop 6 (imp_drop 7 (imp_keep ?_ ?_ rfl))) ⟨h, ?_⟩ (by omega)
                   · simp [Keep, mk, scrP, scr, wrapS (show k < 4611686018427387904 by omega)]
                   · simp [KeepT, mkT, del, scrT, Ent.scr, scrL, scr]
                   · simp only [allN, ha, hP]; simp_all)
            · (have fx := And.intro (@e1) (And.intro (@e2) (And.intro (@h) (And.intro (@a2) (And.intro (@w1) (And.intro (@b3) (And.intro (@w2) (And.intro (@e4) (@h'))))))))
               repeat' (first | with_reducible refine go ?_ | with_reducible refine t_region fun KT hT => ?_ | (refine gp fun KK hK => ?_; first | ((with_reducible first | refine .inl ⟨_, _, ⟨c, rfl, csq⟩, hK _ _ (nz ?_)⟩ | refine ⟨_, ⟨c, rfl, rfl, csq⟩, hK _ (nz ?_)⟩); clear hK KK) | (refine ⟨by first | exact eq_hop, ?_⟩; (first | refine hK _ _ ?_ | refine hK _ (nz ?_)); clear hK KK) | ((repeat refine And.intro (by first | omega | (rw [getD_map_lt (by omega)]; rfl) | (simp; first | done | omega)) ?_); first | (refine hK _ _ ?_; clear hK KK) | (refine hK _ ?_; clear hK KK; try simp only [upd_mk]))) | ((with_reducible first | refine o_nil (hT _ _ ?_) | refine h_nil (hT _ ?_)); clear hT KT) | ((first | refine gd fun AA BB hA hB => ?_ | refine tc fun AA BB hA hB => ?_); first | (refine go ?_; (first | refine hA ?_ | refine hB ?_); clear hA hB AA BB) | (refine go2 ?_ ?_ <;> intro hb <;> (first | refine hA ?_ | refine hB ?_) <;> clear hA hB AA BB <;> (try simp only [hb, decide_true, decide_false]) <;> (try (exfalso; first | (simp at hb; done) | (simp at hb; omega))))) | (with_reducible refine skS ?_; simp only [upd_mk]) | with_reducible refine tdr fun KT hT => ?_ | with_reducible refine bY ?_)
               all_goals clear fx)
              all_goals first
                | ((refine fe ?_; try exact trivial); rw [allN_bad (k := k) (by rw [hP]; simp_all) h]; done)
                | (refine k_rnd (k + 1) (imp_drop 6 (imp_drop 7 (imp_keep ?_ ?_ rfl))) ⟨h, ?_⟩ (by omega)
                   · simp [Keep, mk, scrP, scr, wrapS (show k < 4611686018427387904 by omega)]
                   · simp [KeepT, mkT, del, scrT, Ent.scr, scrL, scr]
                   · simp only [allN, ha, hP]; simp_all)
      · obtain rfl : k = s.hops.length := by omega
        have e1 : decide ((s.hops.length : Int) < (s.hops.length : Int)) = false := by simp
        (have fx := (@e1)
         repeat' (first | with_reducible refine go ?_ | with_reducible refine t_region fun KT hT => ?_ | (refine gp fun KK hK => ?_; first | (refine ⟨by first | exact eq_hop, ?_⟩; (first | refine hK _ _ ?_ | refine hK _ (nz ?_)); clear hK KK) | ((repeat refine And.intro (by first | omega | (rw [getD_map_lt (by omega)]; rfl) | (simp; first | done | omega)) ?_); first | (refine hK _ _ ?_; clear hK KK) | (refine hK _ ?_; clear hK KK; try simp only [upd_mk]))) | ((with_reducible first | refine o_nil (hT _ _ ?_) | refine h_nil (hT _ ?_)); clear hT KT) | ((first | refine gd fun AA BB hA hB => ?_ | refine tc fun AA BB hA hB => ?_); first | (refine go ?_; (first | refine hA ?_ | refine hB ?_); clear hA hB AA BB) | (refine go2 ?_ ?_ <;> intro hb <;> (first | refine hA ?_ | refine hB ?_) <;> clear hA hB AA BB <;> (try simp only [hb, decide_true, decide_false]) <;> (try (exfalso; first | (simp at hb; done) | (simp at hb; omega))))) | (with_reducible refine skS ?_; simp only [upd_mk]) | with_reducible refine tdr fun KT hT => ?_ | with_reducible refine bY ?_)
         all_goals clear fx)
        (refine fe ?_; try exact trivial)
        rw [ha]
    · have n0 : (s.hops[0].ing != 0) = true := by simp only [bne, a0, Bool.not_false]
      refine acall_mk Tryz.func49 rfl Tryz.ntmps49 Tryz.results49 (by kernel_rfl) (by simp) ?_
      simp only [args, Nat.zero_add, Nat.reduceAdd]
      (have fx := And.intro (@hr) (And.intro (@e20) (And.intro (@h0) (@n0)))
       repeat' (first | with_reducible refine go ?_ | with_reducible refine t_region fun KT hT => ?_ | (refine gp fun KK hK => ?_; first | ((with_reducible first | refine .inl ⟨_, _, ⟨hopsOk_i t s.hops h1 hl, rfl, csq⟩, hK _ _ (nz ?_)⟩ | refine ⟨_, ⟨hopsOk_i t s.hops h1 hl, rfl, rfl, csq⟩, hK _ (nz ?_)⟩); clear hK KK) | (refine ⟨by first | exact eq_hop, ?_⟩; (first | refine hK _ _ ?_ | refine hK _ (nz ?_)); clear hK KK) | ((repeat refine And.intro (by first | omega | (rw [getD_map_lt (by omega)]; rfl) | (simp; first | done | omega)) ?_); first | (refine hK _ _ ?_; clear hK KK) | (refine hK _ ?_; clear hK KK; try simp only [upd_mk]))) | ((with_reducible first | refine o_nil (hT _ _ ?_) | refine h_nil (hT _ ?_)); clear hT KT) | ((first | refine gd fun AA BB hA hB => ?_ | refine tc fun AA BB hA hB => ?_); first | (refine go ?_; (first | refine hA ?_ | refine hB ?_); clear hA hB AA BB) | (refine go2 ?_ ?_ <;> intro hb <;> (first | refine hA ?_ | refine hB ?_) <;> clear hA hB AA BB <;> (try simp only [hb, decide_true, decide_false]) <;> (try (exfalso; first | (simp at hb; done) | (simp at hb; omega))))) | (with_reducible refine skS ?_; simp only [upd_mk]) | with_reducible refine tdr fun KT hT => ?_ | with_reducible refine bY ?_)
       all_goals clear fx)
      (refine fe ?_; try exact trivial)
      simp only [wellF, e30, a0, Bool.and_false, Bool.false_and]
  · have hr' : hopsOkF t s.hops = false := by simpa using hr
    refine acall_mk Tryz.func49 rfl Tryz.ntmps49 Tryz.results49 (by kernel_rfl) (by simp) ?_
    simp only [args, Nat.zero_add, Nat.reduceAdd]
    (have fx := (@hr')
     repeat' (first | with_reducible refine go ?_ | with_reducible refine t_region fun KT hT => ?_ | (refine gp fun KK hK => ?_; first | ((with_reducible first | refine .inl ⟨_, _, ⟨hopsOk_i t s.hops h1 hl, rfl, csq⟩, hK _ _ (nz ?_)⟩ | refine ⟨_, ⟨hopsOk_i t s.hops h1 hl, rfl, rfl, csq⟩, hK _ (nz ?_)⟩); clear hK KK) | (refine ⟨by first | exact eq_hop, ?_⟩; (first | refine hK _ _ ?_ | refine hK _ (nz ?_)); clear hK KK) | ((repeat refine And.intro (by first | omega | (rw [getD_map_lt (by omega)]; rfl) | (simp; first | done | omega)) ?_); first | (refine hK _ _ ?_; clear hK KK) | (refine hK _ ?_; clear hK KK; try simp only [upd_mk]))) | ((with_reducible first | refine o_nil (hT _ _ ?_) | refine h_nil (hT _ ?_)); clear hT KT) | ((first | refine gd fun AA BB hA hB => ?_ | refine tc fun AA BB hA hB => ?_); first | (refine go ?_; (first | refine hA ?_ | refine hB ?_); clear hA hB AA BB) | (refine go2 ?_ ?_ <;> intro hb <;> (first | refine hA ?_ | refine hB ?_) <;> clear hA hB AA BB <;> (try simp only [hb, decide_true, decide_false]) <;> (try (exfalso; first | (simp at hb; done) | (simp at hb; omega))))) | (with_reducible refine skS ?_; simp only [upd_mk]) | with_reducible refine tdr fun KT hT => ?_ | with_reducible refine bY ?_)
     all_goals clear fx)
    (refine fe ?_; try exact trivial)
    simp only [wellF, hr', Bool.false_and]

set_option maxHeartbeats 4000000 in
theorem well_s (t : Tp) (s : Sg) (h1 : t.ases.length ≤ 1048576) (h2 : t.links.length ≤ 1048576) (hl : s.hops.length ≤ 1048576) : ACall Tryz.prog 63 [.agg (tpRow t), .agg (segRow s)] (.bool (wellF t s)) [] := by
  rw [well_eq]
  by_cases hr : inR s.hops.length 1 8 = true
  · have h0 : 0 < s.hops.length := by simp only [inR, Bool.and_eq_true, decide_eq_true_eq] at hr; omega
    have e20 := getD_map_lt (f := hopRow) h0
    have e30 : s.hops.getD 0 hz = s.hops[0] := getD_lt h0
    have w1 := wrap1 (show s.hops.length < 4611686018427387904 by omega)
    have ca := (ases_s s hl).ro
    simp only [view, tabOf, List.getElem?_cons_zero, Option.map_some] at ca
    rcases Bool.eq_false_or_eq_true (s.hops[0].ing == 0) with a0 | a0
    · have n0 : (s.hops[0].ing != 0) = false := by simp only [bne, a0, Bool.not_true]
      simp only [hr, e30, a0, Bool.true_and]
      refine acall_mk Tryz.func63 rfl Tryz.ntmps63 Tryz.results63 (by kernel_rfl) (by simp) ?_
      simp only [args, Nat.zero_add, Nat.reduceAdd]
      (have fx := And.intro (@hr) (And.intro (@e20) (And.intro (@h0) (@n0)))
       repeat' (first | with_reducible refine go ?_ | with_reducible refine t_region fun KT hT => ?_ | (refine gp fun KK hK => ?_; first | ((with_reducible first | refine .inl ⟨_, _, ⟨l1In_s _ _ _, rfl, csq⟩, hK _ _ (nz ?_)⟩ | refine .inl ⟨_, _, ⟨ca, rfl, csq⟩, hK _ _ (nz ?_)⟩ | refine ⟨_, ⟨l1In_s _ _ _, rfl, rfl, csq⟩, hK _ (nz ?_)⟩ | refine ⟨_, ⟨ca, rfl, rfl, csq⟩, hK _ (nz ?_)⟩); clear hK KK) | (refine ⟨by first | exact eq_hop, ?_⟩; (first | refine hK _ _ ?_ | refine hK _ (nz ?_)); clear hK KK) | ((repeat refine And.intro (by first | omega | (rw [getD_map_lt (by omega)]; rfl) | (simp; first | done | omega)) ?_); first | (refine hK _ _ ?_; clear hK KK) | (refine hK _ ?_; clear hK KK; try simp only [upd_mk]))) | ((with_reducible first | refine o_nil (hT _ _ ?_) | refine h_nil (hT _ ?_)); clear hT KT) | ((first | refine gd fun AA BB hA hB => ?_ | refine tc fun AA BB hA hB => ?_); first | (refine go ?_; (first | refine hA ?_ | refine hB ?_); clear hA hB AA BB) | (refine go2 ?_ ?_ <;> intro hb <;> (first | refine hA ?_ | refine hB ?_) <;> clear hA hB AA BB <;> (try simp only [hb, decide_true, decide_false]) <;> (try (exfalso; first | (simp at hb; done) | (simp at hb; omega))))) | (with_reducible refine skS ?_; simp only [upd_mk]) | with_reducible refine tdr fun KT hT => ?_ | with_reducible refine bY ?_)
       all_goals clear fx)
      clear ca
      refine t_loop (fun k : Nat => [(2, .ptr 2 0 0), (3, .ptr 3 0 0), (5, .sl ((ases s.hops).map intRow)), (6, .int .i64 k)]) (fun _ => [(3, .box (segRow s)), (2, .box (tpRow t))]) (fun k => k ≤ s.hops.length ∧ allN (fun i => hopP t s.hops i && lnkP t s.hops i) k = true) (fun k => s.hops.length - k) 0 (imp_keep (by simp [Keep, mk]) (by simp [KeepT, mkT]) rfl) ⟨Nat.zero_le _, rfl⟩ ?_
      rintro k ⟨hk, ha⟩
      rcases Nat.lt_or_ge k s.hops.length with h | h
      · have e1 : decide ((k : Int) < (s.hops.length : Int)) = true := by simpa using h
        have e2 := getD_map_lt (f := hopRow) h
        have e3 : s.hops.getD k hz = s.hops[k] := getD_lt h
        have e5 : List.take k ((ases s.hops).map intRow) = (ases (s.hops.take k)).map intRow := by simp only [ases, List.map_take]
        have e6 : k ≤ (ases s.hops).length := by simpa [ases] using hk
        have e7 : (ases (s.hops.take k)).length ≤ 16777216 := by have := ases_len s.hops k; omega
        have hP : hopP t s.hops k = (validHop s.hops[k] && realm t s.hops[k].asn && !(hasI (ases (s.hops.take k)) s.hops[k].asn)) := by simp only [hopP, e3]
        have hQ : lnkP t s.hops k = (!(s.hops[k].eg == 0 && decide ((k : Int) < (s.hops.length : Int) - 1)) && (!decide (0 < (k : Int)) || ((remote t (s.hops.getD (k - 1) hz).asn (s.hops.getD (k - 1) hz).eg).1 == s.hops[k].asn && (remote t (s.hops.getD (k - 1) hz).asn (s.hops.getD (k - 1) hz).eg).2 == s.hops[k].ing))) := by simp only [lnkP, e3]
        by_cases hk0 : k = 0
        · have b3 : decide ((0 : Int) < (k : Int)) = false := decide_eq_false (by omega)
          rw [b3] at hQ
          simp only [Bool.not_false, Bool.true_or, Bool.and_true] at hQ
          (have fx := And.intro (@e1) (And.intro (@e2) (And.intro (@h) (And.intro (@w1) (And.intro (@b3) (And.intro (@e5) (And.intro (@e6) (@Nat.zero_le)))))))
           repeat' (first | with_reducible refine go ?_ | with_reducible refine t_region fun KT hT => ?_ | (refine gp fun KK hK => ?_; first | ((with_reducible first | refine .inl ⟨_, _, ⟨validHop_s s.hops[k], rfl, csq⟩, hK _ _ (nz ?_)⟩ | refine .inl ⟨_, _, ⟨realm_s t _ h1, rfl, csq⟩, hK _ _ (nz ?_)⟩ | refine .inl ⟨_, _, ⟨hasI_s _ _ e7, rfl, csq⟩, hK _ _ (nz ?_)⟩ | refine ⟨_, ⟨validHop_s s.hops[k], rfl, rfl, csq⟩, hK _ (nz ?_)⟩ | refine ⟨_, ⟨realm_s t _ h1, rfl, rfl, csq⟩, hK _ (nz ?_)⟩ | refine ⟨_, ⟨hasI_s _ _ e7, rfl, rfl, csq⟩, hK _ (nz ?_)⟩); clear hK KK) | (refine ⟨by first | exact eq_hop, ?_⟩; (first | refine hK _ _ ?_ | refine hK _ (nz ?_)); clear hK KK) | ((repeat refine And.intro (by first | omega | (rw [getD_map_lt (by omega)]; rfl) | (simp; first | done | omega)) ?_); first | (refine hK _ _ ?_; clear hK KK) | (refine hK _ ?_; clear hK KK; try simp only [upd_mk]))) | ((with_reducible first | refine o_nil (hT _ _ ?_) | refine h_nil (hT _ ?_)); clear hT KT) | ((first | refine gd fun AA BB hA hB => ?_ | refine tc fun AA BB hA hB => ?_); first | (refine go ?_; (first | refine hA ?_ | refine hB ?_); clear hA hB AA BB) | (refine go2 ?_ ?_ <;> intro hb <;> (first | refine hA ?_ | refine hB ?_) <;> clear hA hB AA BB <;> (try simp only [hb, decide_true, decide_false]) <;> (try (exfalso; first | (simp at hb; done) | (simp at hb; omega))))) | (with_reducible refine skS ?_; simp only [upd_mk]) | with_reducible refine tdr fun KT hT => ?_ | with_reducible refine bY ?_)
           all_goals clear fx)
          all_goals first
            | ((refine fe ?_; try exact trivial); rw [allN_bad (k := k) (by simp only [hP, hQ]; simp_all) h]; done)
            | (refine k_rnd (k + 1) (imp_drop 7 (imp_keep ?_ ?_ rfl)) ⟨h, ?_⟩ (by omega)
               · simp [Keep, mk, scrP, scr, wrapS (show k < 4611686018427387904 by omega)]
               · simp [KeepT, mkT, del, scrT, Ent.scr, scrL, scr]
               · simp only [allN, ha, hP, hQ]; simp_all)
        · have h' : k - 1 < s.hops.length := by omega
          have b3 : decide ((0 : Int) < (k : Int)) = true := decide_eq_true (by omega)
          have w2 := wrapP (show 0 < k by omega) (by omega)
          have e4 := getD_map_lt (f := hopRow) h'
          have e8 : s.hops.getD (k - 1) hz = s.hops[k - 1] := getD_lt h'
          rw [b3, e8] at hQ
          simp only [Bool.not_true, Bool.false_or] at hQ
          have c := remote_s t s.hops[k - 1].asn s.hops[k - 1].eg h2
          generalize remote t s.hops[k - 1].asn s.hops[k - 1].eg = q at *
          obtain ⟨q1, q2⟩ := q
          simp only at c hQ
          (have fx := And.intro (@e1) (And.intro (@e2) (And.intro (@h) (And.intro (@w1) (And.intro (@b3) (And.intro (@e5) (And.intro (@e6) (And.intro (@Nat.zero_le) (And.intro (@w2) (And.intro (@e4) (@h'))))))))))
           repeat' (first | with_reducible refine go ?_ | with_reducible refine t_region fun KT hT => ?_ | (refine gp fun KK hK => ?_; first | ((with_reducible first | refine .inl ⟨_, _, ⟨validHop_s s.hops[k], rfl, csq⟩, hK _ _ (nz ?_)⟩ | refine .inl ⟨_, _, ⟨realm_s t _ h1, rfl, csq⟩, hK _ _ (nz ?_)⟩ | refine .inl ⟨_, _, ⟨hasI_s _ _ e7, rfl, csq⟩, hK _ _ (nz ?_)⟩ | refine .inl ⟨_, _, ⟨c, rfl, csq⟩, hK _ _ (nz ?_)⟩ | refine ⟨_, ⟨validHop_s s.hops[k], rfl, rfl, csq⟩, hK _ (nz ?_)⟩ | refine ⟨_, ⟨realm_s t _ h1, rfl, rfl, csq⟩, hK _ (nz ?_)⟩ | refine ⟨_, ⟨hasI_s _ _ e7, rfl, rfl, csq⟩, hK _ (nz ?_)⟩ | refine ⟨_, ⟨c, rfl, rfl, csq⟩, hK _ (nz ?_)⟩); clear hK KK) | (refine ⟨by first | exact eq_hop, ?_⟩; (first | refine hK _ _ ?_ | refine hK _ (nz ?_)); clear hK KK) | ((repeat refine And.intro (by first | omega | (rw [getD_map_lt (by omega)]; rfl) | (simp; first | done | omega)) ?_); first | (refine hK _ _ ?_; clear hK KK) | (refine hK _ ?_; clear hK KK; try simp only [upd_mk]))) | ((with_reducible first | refine o_nil (hT _ _ ?_) | refine h_nil (hT _ ?_)); clear hT KT) | ((first | refine gd fun AA BB hA hB => ?_ | refine tc fun AA BB hA hB => ?_); first | (refine go ?_; (first | refine hA ?_ | refine hB ?_); clear hA hB AA BB) | (refine go2 ?_ ?_ <;> intro hb <;> (first | refine hA ?_ | refine hB ?_) <;> clear hA hB AA BB <;> (try simp only [hb, decide_true, decide_false]) <;> (try (exfalso; first | (simp at hb; done) | (simp at hb; omega))))) | (with_reducible refine skS ?_; simp only [upd_mk]) | with_reducible refine tdr fun KT hT => ?_ | with_reducible refine bY ?_)
           all_goals clear fx)
          all_goals clear c
          all_goals first
            | ((refine fe ?_; try exact trivial); rw [allN_bad (k := k) (by simp only [hP, hQ]; simp_all) h]; done)
            | (refine k_rnd (k + 1) (imp_drop 7 (imp_keep ?_ ?_ rfl)) ⟨h, ?_⟩ (by omega)
               · simp [Keep, mk, scrP, scr, wrapS (show k < 4611686018427387904 by omega)]
               · simp [KeepT, mkT, del, scrT, Ent.scr, scrL, scr]
               · simp only [allN, ha, hP, hQ]; simp_all)
      · obtain rfl : k = s.hops.length := by omega
        have e1 : decide ((s.hops.length : Int) < (s.hops.length : Int)) = false := by simp
        (have fx := (@e1)
         repeat' (first | with_reducible refine go ?_ | with_reducible refine t_region fun KT hT => ?_ | (refine gp fun KK hK => ?_; first | (refine ⟨by first | exact eq_hop, ?_⟩; (first | refine hK _ _ ?_ | refine hK _ (nz ?_)); clear hK KK) | ((repeat refine And.intro (by first | omega | (rw [getD_map_lt (by omega)]; rfl) | (simp; first | done | omega)) ?_); first | (refine hK _ _ ?_; clear hK KK) | (refine hK _ ?_; clear hK KK; try simp only [upd_mk]))) | ((with_reducible first | refine o_nil (hT _ _ ?_) | refine h_nil (hT _ ?_)); clear hT KT) | ((first | refine gd fun AA BB hA hB => ?_ | refine tc fun AA BB hA hB => ?_); first | (refine go ?_; (first | refine hA ?_ | refine hB ?_); clear hA hB AA BB) | (refine go2 ?_ ?_ <;> intro hb <;> (first | refine hA ?_ | refine hB ?_) <;> clear hA hB AA BB <;> (try simp only [hb, decide_true, decide_false]) <;> (try (exfalso; first | (simp at hb; done) | (simp at hb; omega))))) | (with_reducible refine skS ?_; simp only [upd_mk]) | with_reducible refine tdr fun KT hT => ?_ | with_reducible refine bY ?_)
         all_goals clear fx)
        (refine fe ?_; try exact trivial)
        rw [ha]
    · have n0 : (s.hops[0].ing != 0) = true := by simp only [bne, a0, Bool.not_false]
      refine acall_mk Tryz.func63 rfl Tryz.ntmps63 Tryz.results63 (by kernel_rfl) (by simp) ?_
      simp only [args, Nat.zero_add, Nat.reduceAdd]
      (have fx := And.intro (@hr) (And.intro (@e20) (And.intro (@h0) (@n0)))
       repeat' (first | with_reducible refine go ?_ | with_reducible refine t_region fun KT hT => ?_ | (refine gp fun KK hK => ?_; first | ((with_reducible first | refine .inl ⟨_, _, ⟨l1In_s _ _ _, rfl, csq⟩, hK _ _ (nz ?_)⟩ | refine ⟨_, ⟨l1In_s _ _ _, rfl, rfl, csq⟩, hK _ (nz ?_)⟩); clear hK KK) | (refine ⟨by first | exact eq_hop, ?_⟩; (first | refine hK _ _ ?_ | refine hK _ (nz ?_)); clear hK KK) | ((repeat refine And.intro (by first | omega | (rw [getD_map_lt (by omega)]; rfl) | (simp; first | done | omega)) ?_); first | (refine hK _ _ ?_; clear hK KK) | (refine hK _ ?_; clear hK KK; try simp only [upd_mk]))) | ((with_reducible first | refine o_nil (hT _ _ ?_) | refine h_nil (hT _ ?_)); clear hT KT) | ((first | refine gd fun AA BB hA hB => ?_ | refine tc fun AA BB hA hB => ?_); first | (refine go ?_; (first | refine hA ?_ | refine hB ?_); clear hA hB AA BB) | (refine go2 ?_ ?_ <;> intro hb <;> (first | refine hA ?_ | refine hB ?_) <;> clear hA hB AA BB <;> (try simp only [hb, decide_true, decide_false]) <;> (try (exfalso; first | (simp at hb; done) | (simp at hb; omega))))) | (with_reducible refine skS ?_; simp only [upd_mk]) | with_reducible refine tdr fun KT hT => ?_ | with_reducible refine bY ?_)
       all_goals clear fx)
      (refine fe ?_; try exact trivial)
      simp only [e30, a0, Bool.and_false, Bool.false_and]
  · have hr' : inR s.hops.length 1 8 = false := by simpa using hr
    refine acall_mk Tryz.func63 rfl Tryz.ntmps63 Tryz.results63 (by kernel_rfl) (by simp) ?_
    simp only [args, Nat.zero_add, Nat.reduceAdd]
    (have fx := (@hr')
     repeat' (first | with_reducible refine go ?_ | with_reducible refine t_region fun KT hT => ?_ | (refine gp fun KK hK => ?_; first | ((with_reducible first | refine .inl ⟨_, _, ⟨l1In_s _ _ _, rfl, csq⟩, hK _ _ (nz ?_)⟩ | refine ⟨_, ⟨l1In_s _ _ _, rfl, rfl, csq⟩, hK _ (nz ?_)⟩); clear hK KK) | (refine ⟨by first | exact eq_hop, ?_⟩; (first | refine hK _ _ ?_ | refine hK _ (nz ?_)); clear hK KK) | ((repeat refine And.intro (by first | omega | (rw [getD_map_lt (by omega)]; rfl) | (simp; first | done | omega)) ?_); first | (refine hK _ _ ?_; clear hK KK) | (refine hK _ ?_; clear hK KK; try simp only [upd_mk]))) | ((with_reducible first | refine o_nil (hT _ _ ?_) | refine h_nil (hT _ ?_)); clear hT KT) | ((first | refine gd fun AA BB hA hB => ?_ | refine tc fun AA BB hA hB => ?_); first | (refine go ?_; (first | refine hA ?_ | refine hB ?_); clear hA hB AA BB) | (refine go2 ?_ ?_ <;> intro hb <;> (first | refine hA ?_ | refine hB ?_) <;> clear hA hB AA BB <;> (try simp only [hb, decide_true, decide_false]) <;> (try (exfalso; first | (simp at hb; done) | (simp at hb; omega))))) | (with_reducible refine skS ?_; simp only [upd_mk]) | with_reducible refine tdr fun KT hT => ?_ | with_reducible refine bY ?_)
     all_goals clear fx)
    (refine fe ?_; try exact trivial)
    simp only [hr', Bool.false_and]

end Go.Proofs.YtmiclkgkfkcnoaaGreat
