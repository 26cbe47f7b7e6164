/- The functions of this program, walked by the evaluator: part n, 1. -/
import Derived.Test.YtmiclkgkfkcnoaaGreatLm1
import Derived.Test.YtmiclkgkfkcnoaaGreatLD
namespace Go.Proofs.YtmiclkgkfkcnoaaGreat
open Go.RowKit
set_option linter.unusedSimpArgs false
set_option linter.unusedVariables false
set_option maxRecDepth 100000
set_option linter.defProp false
namespace GLn1
def gx := And.intro (@hopRow.eq_1) (And.intro (@polRow.eq_1) (And.intro (@segRow.eq_1) (And.intro (@intRow.eq_1) (And.intro (@rowLen_ints) (And.intro (@rowLen_nil) (And.intro (@rowLen_cons) (And.intro (@rowLen_append) (And.intro (@lenL_app) (And.intro (@byteRow.eq_1) (And.intro (@rowLen_bytes) (And.intro (@bytesOf_map) (And.intro (@bytesOf_cons) (And.intro (@bytesOf_one) (And.intro (@rowLen_strs) (And.intro (@asRow.eq_1) (And.intro (@lkRow.eq_1) (And.intro (@tpRow.eq_1) (And.intro (@rowLen_hops) (And.intro (@rowLen_ases) (And.intro (@rowLen_links) (And.intro (@bcRow.eq_1) (@rowLen_bcs))))))))))))))))))))))
end GLn1
open GLn1
theorem fstInv_s (t : Tp) (s : Sg) (h1 : t.ases.length ≤ 1048576) (hl : s.hops.length ≤ 1048576) : ACall Tryz.prog 70 [.agg (tpRow t), .agg (segRow s)] (.int .i64 (fstInv t s)) [] := by
  refine acall_mk Tryz.func70 rfl Tryz.ntmps70 Tryz.results70 (by kernel_rfl) (by simp) ?_
  simp only [args, Nat.zero_add, Nat.reduceAdd]
  repeat' (first | with_reducible refine go ?_ | with_reducible refine t_region fun KT hT => ?_ | (refine gp fun KK hK => ?_; first | (refine ⟨by first | exact eq_hop, ?_⟩; (first | refine hK _ _ ?_ | refine hK _ (nz ?_)); clear hK KK) | ((repeat refine And.intro (by first | omega | (rw [getD_map_lt (by omega)]; rfl) | (simp; first | done | omega)) ?_); first | (refine hK _ _ ?_; clear hK KK) | (refine hK _ ?_; clear hK KK; try simp only [upd_mk]))) | ((with_reducible first | refine o_nil (hT _ _ ?_) | refine h_nil (hT _ ?_)); clear hT KT) | ((first | refine gd fun AA BB hA hB => ?_ | refine tc fun AA BB hA hB => ?_); first | (refine go ?_; (first | refine hA ?_ | refine hB ?_); clear hA hB AA BB) | (refine go2 ?_ ?_ <;> intro hb <;> (first | refine hA ?_ | refine hB ?_) <;> clear hA hB AA BB <;> (try simp only [hb, decide_true, decide_false]) <;> (try (exfalso; first | (simp at hb; done) | (simp at hb; omega))))) | (with_reducible refine skS ?_; simp only [upd_mk]) | with_reducible refine tdr fun KT hT => ?_ | with_reducible refine bY ?_)
  refine t_loop (fun k : Nat => [(2, .ptr 2 0 0), (3, .ptr 3 0 0), (5, .int .i64 k)]) (fun _ => [(3, .box (segRow s)), (2, .box (tpRow t))]) (fun k => k ≤ s.hops.length ∧ fstInv t s = fstF (fun i => !verAt t s i) (s.hops.length - k) k) (fun k => s.hops.length - k) 0 (imp_keep (by simp [Keep, mk]) (by simp [KeepT, mkT]) rfl) ⟨Nat.zero_le _, by simp [fstInv]⟩ ?_
  rintro k ⟨hk, hi⟩
  rcases Nat.lt_or_ge k s.hops.length with h | h
  · have e1 : decide ((k : Int) < (s.hops.length : Int)) = true := by simpa using h
    have e2 := getD_map_lt (f := hopRow) h
    have e3 : verAt t s k = verHop t s.ts (betaAt s k) s.hops[k] := by rw [verAt, getD_lt h]
    (have fx := And.intro (@e1) (And.intro (@e2) (@h))
     repeat' (first | with_reducible refine go ?_ | with_reducible refine t_region fun KT hT => ?_ | (refine gp fun KK hK => ?_; first | ((with_reducible first | refine .inl ⟨_, _, ⟨betaAt_s s _ hl, rfl, csq⟩, hK _ _ (nz ?_)⟩ | refine .inl ⟨_, _, ⟨verHop_s t _ _ s.hops[k] h1, rfl, csq⟩, hK _ _ (nz ?_)⟩ | refine ⟨_, ⟨betaAt_s s _ hl, rfl, rfl, csq⟩, hK _ (nz ?_)⟩ | refine ⟨_, ⟨verHop_s t _ _ s.hops[k] h1, rfl, rfl, csq⟩, hK _ (nz ?_)⟩); clear hK KK) | (refine ⟨by first | exact eq_hop, ?_⟩; (first | refine hK _ _ ?_ | refine hK _ (nz ?_)); clear hK KK) | ((repeat refine And.intro (by first | omega | (rw [getD_map_lt (by omega)]; rfl) | (simp; first | done | omega)) ?_); first | (refine hK _ _ ?_; clear hK KK) | (refine hK _ ?_; clear hK KK; try simp only [upd_mk]))) | ((with_reducible first | refine o_nil (hT _ _ ?_) | refine h_nil (hT _ ?_)); clear hT KT) | ((first | refine gd fun AA BB hA hB => ?_ | refine tc fun AA BB hA hB => ?_); first | (refine go ?_; (first | refine hA ?_ | refine hB ?_); clear hA hB AA BB) | (refine go2 ?_ ?_ <;> intro hb <;> (first | refine hA ?_ | refine hB ?_) <;> clear hA hB AA BB <;> (try simp only [hb, decide_true, decide_false]) <;> (try (exfalso; first | (simp at hb; done) | (simp at hb; omega))))) | (with_reducible refine skS ?_; simp only [upd_mk]) | with_reducible refine tdr fun KT hT => ?_ | with_reducible refine bY ?_)
     all_goals clear fx)
    · (refine fe ?_; try exact trivial)
      rw [hi, fstF_yes h (by rw [e3]; exact hb)]
    · refine k_rnd (k + 1) (imp_keep ?_ ?_ rfl) ⟨h, ?_⟩ (by omega)
      · simp [Keep, mk, scrP, scr, wrapS (show k < 4611686018427387904 by omega)]
      · simp [KeepT, mkT]
      · rw [hi, fstF_no h (by rw [e3]; exact hb)]
  · obtain rfl : k = s.hops.length := by omega
    have e1 : decide ((s.hops.length : Int) < (s.hops.length : Int)) = false := by simp
    (have fx := (@e1)
     repeat' (first | with_reducible refine go ?_ | with_reducible refine t_region fun KT hT => ?_ | (refine gp fun KK hK => ?_; first | (refine ⟨by first | exact eq_hop, ?_⟩; (first | refine hK _ _ ?_ | refine hK _ (nz ?_)); clear hK KK) | ((repeat refine And.intro (by first | omega | (rw [getD_map_lt (by omega)]; rfl) | (simp; first | done | omega)) ?_); first | (refine hK _ _ ?_; clear hK KK) | (refine hK _ ?_; clear hK KK; try simp only [upd_mk]))) | ((with_reducible first | refine o_nil (hT _ _ ?_) | refine h_nil (hT _ ?_)); clear hT KT) | ((first | refine gd fun AA BB hA hB => ?_ | refine tc fun AA BB hA hB => ?_); first | (refine go ?_; (first | refine hA ?_ | refine hB ?_); clear hA hB AA BB) | (refine go2 ?_ ?_ <;> intro hb <;> (first | refine hA ?_ | refine hB ?_) <;> clear hA hB AA BB <;> (try simp only [hb, decide_true, decide_false]) <;> (try (exfalso; first | (simp at hb; done) | (simp at hb; omega))))) | (with_reducible refine skS ?_; simp only [upd_mk]) | with_reducible refine tdr fun KT hT => ?_ | with_reducible refine bY ?_)
     all_goals clear fx)
    (refine fe ?_; try exact trivial)
    rw [hi, Nat.sub_self]; rfl

theorem fstInv_i (t : Tp) (s : Sg) (h1 : t.ases.length ≤ 1048576) (hl : s.hops.length ≤ 1048576) : ACall Tryz.prog 50 [.agg (tpRow t), .agg (segRow s)] (.int .i64 (fstInv t s)) [] := by
  refine acall_mk Tryz.func50 rfl Tryz.ntmps50 Tryz.results50 (by kernel_rfl) (by simp) ?_
  simp only [args, Nat.zero_add, Nat.reduceAdd]
  repeat' (first | with_reducible refine go ?_ | with_reducible refine t_region fun KT hT => ?_ | (refine gp fun KK hK => ?_; first | (refine ⟨by first | exact eq_hop, ?_⟩; (first | refine hK _ _ ?_ | refine hK _ (nz ?_)); clear hK KK) | ((repeat refine And.intro (by first | omega | (rw [getD_map_lt (by omega)]; rfl) | (simp; first | done | omega)) ?_); first | (refine hK _ _ ?_; clear hK KK) | (refine hK _ ?_; clear hK KK; try simp only [upd_mk]))) | ((with_reducible first | refine o_nil (hT _ _ ?_) | refine h_nil (hT _ ?_)); clear hT KT) | ((first | refine gd fun AA BB hA hB => ?_ | refine tc fun AA BB hA hB => ?_); first | (refine go ?_; (first | refine hA ?_ | refine hB ?_); clear hA hB AA BB) | (refine go2 ?_ ?_ <;> intro hb <;> (first | refine hA ?_ | refine hB ?_) <;> clear hA hB AA BB <;> (try simp only [hb, decide_true, decide_false]) <;> (try (exfalso; first | (simp at hb; done) | (simp at hb; omega))))) | (with_reducible refine skS ?_; simp only [upd_mk]) | with_reducible refine tdr fun KT hT => ?_ | with_reducible refine bY ?_)
  refine t_loop (fun k : Nat => [(2, .ptr 2 0 0), (3, .ptr 3 0 0), (8, .sl (s.hops.map hopRow)), (9, .int .i64 s.hops.length), (10, .int .i64 k)]) (fun _ => [(3, .box (segRow s)), (2, .box (tpRow t))]) (fun k => k ≤ s.hops.length ∧ fstInv t s = fstF (fun i => !verAt t s i) (s.hops.length - k) k) (fun k => s.hops.length - k) 0 (imp_keep (by simp [Keep, mk]) (by simp [KeepT, mkT]) rfl) ⟨Nat.zero_le _, by simp [fstInv]⟩ ?_
  rintro k ⟨hk, hi⟩
  rcases Nat.lt_or_ge k s.hops.length with h | h
  · have e1 : decide ((k : Int) < (s.hops.length : Int)) = true := by simpa using h
    have e2 := getD_map_lt (f := hopRow) h
    have e3 : verAt t s k = verHop t s.ts (betaAt s k) s.hops[k] := by rw [verAt, getD_lt h]
    (have fx := And.intro (@e1) (And.intro (@e2) (@h))
     repeat' (first | with_reducible refine go ?_ | with_reducible refine t_region fun KT hT => ?_ | (refine gp fun KK hK => ?_; first | ((with_reducible first | refine .inl ⟨_, _, ⟨betaAt_i s _ hl, rfl, csq⟩, hK _ _ (nz ?_)⟩ | refine .inl ⟨_, _, ⟨verHop_i t _ _ s.hops[k] h1, rfl, csq⟩, hK _ _ (nz ?_)⟩ | refine ⟨_, ⟨betaAt_i s _ hl, rfl, rfl, csq⟩, hK _ (nz ?_)⟩ | refine ⟨_, ⟨verHop_i t _ _ s.hops[k] h1, rfl, rfl, csq⟩, hK _ (nz ?_)⟩); clear hK KK) | (refine ⟨by first | exact eq_hop, ?_⟩; (first | refine hK _ _ ?_ | refine hK _ (nz ?_)); clear hK KK) | ((repeat refine And.intro (by first | omega | (rw [getD_map_lt (by omega)]; rfl) | (simp; first | done | omega)) ?_); first | (refine hK _ _ ?_; clear hK KK) | (refine hK _ ?_; clear hK KK; try simp only [upd_mk]))) | ((with_reducible first | refine o_nil (hT _ _ ?_) | refine h_nil (hT _ ?_)); clear hT KT) | ((first | refine gd fun AA BB hA hB => ?_ | refine tc fun AA BB hA hB => ?_); first | (refine go ?_; (first | refine hA ?_ | refine hB ?_); clear hA hB AA BB) | (refine go2 ?_ ?_ <;> intro hb <;> (first | refine hA ?_ | refine hB ?_) <;> clear hA hB AA BB <;> (try simp only [hb, decide_true, decide_false]) <;> (try (exfalso; first | (simp at hb; done) | (simp at hb; omega))))) | (with_reducible refine skS ?_; simp only [upd_mk]) | with_reducible refine tdr fun KT hT => ?_ | with_reducible refine bY ?_)
     all_goals clear fx)
    · (refine fe ?_; try exact trivial)
      rw [hi, fstF_yes h (by rw [e3]; exact hb)]
    · refine k_rnd (k + 1) (imp_drop 6 (imp_keep ?_ ?_ rfl)) ⟨h, ?_⟩ (by omega)
      · simp [Keep, mk, scrP, scr, wrapS (show k < 4611686018427387904 by omega)]
      · simp [KeepT, mkT, del, scrT, Ent.scr, scrL, scr]
      · rw [hi, fstF_no h (by rw [e3]; exact hb)]
  · obtain rfl : k = s.hops.length := by omega
    have e1 : decide ((s.hops.length : Int) < (s.hops.length : Int)) = false := by simp
    (have fx := (@e1)
     repeat' (first | with_reducible refine go ?_ | with_reducible refine t_region fun KT hT => ?_ | (refine gp fun KK hK => ?_; first | (refine ⟨by first | exact eq_hop, ?_⟩; (first | refine hK _ _ ?_ | refine hK _ (nz ?_)); clear hK KK) | ((repeat refine And.intro (by first | omega | (rw [getD_map_lt (by omega)]; rfl) | (simp; first | done | omega)) ?_); first | (refine hK _ _ ?_; clear hK KK) | (refine hK _ ?_; clear hK KK; try simp only [upd_mk]))) | ((with_reducible first | refine o_nil (hT _ _ ?_) | refine h_nil (hT _ ?_)); clear hT KT) | ((first | refine gd fun AA BB hA hB => ?_ | refine tc fun AA BB hA hB => ?_); first | (refine go ?_; (first | refine hA ?_ | refine hB ?_); clear hA hB AA BB) | (refine go2 ?_ ?_ <;> intro hb <;> (first | refine hA ?_ | refine hB ?_) <;> clear hA hB AA BB <;> (try simp only [hb, decide_true, decide_false]) <;> (try (exfalso; first | (simp at hb; done) | (simp at hb; omega))))) | (with_reducible refine skS ?_; simp only [upd_mk]) | with_reducible refine tdr fun KT hT => ?_ | with_reducible refine bY ?_)
     all_goals clear fx)
    (refine fe ?_; try exact trivial)
    rw [hi, Nat.sub_self]; rfl

theorem core_i (t : Tp) (r : Int) (h1 : t.ases.length ≤ 1048576) : ACall Tryz.prog 52 [.agg (tpRow t), .int .i64 r] (.bool (coreF t r)) [] := by
  by_cases hh : realm t r = true
  · have hr' := realm_lt hh
    have e1 := getD_map_lt (f := asRow) hr'.2
    refine acall_mk Tryz.func52 rfl Tryz.ntmps52 Tryz.results52 (by kernel_rfl) (by simp) ?_
    simp only [args, Nat.zero_add, Nat.reduceAdd]
    (have fx := And.intro (@hh) (And.intro (@e1) (@hr'))
     repeat' (first | with_reducible refine go ?_ | with_reducible refine t_region fun KT hT => ?_ | (refine gp fun KK hK => ?_; first | ((with_reducible first | refine .inl ⟨_, _, ⟨realm_i t _ h1, rfl, csq⟩, hK _ _ (nz ?_)⟩ | refine ⟨_, ⟨realm_i t _ h1, rfl, rfl, csq⟩, hK _ (nz ?_)⟩); clear hK KK) | (refine ⟨by first | exact eq_hop, ?_⟩; (first | refine hK _ _ ?_ | refine hK _ (nz ?_)); clear hK KK) | ((repeat refine And.intro (by first | omega | (rw [getD_map_lt (by omega)]; rfl) | (simp; first | done | omega)) ?_); first | (refine hK _ _ ?_; clear hK KK) | (refine hK _ ?_; clear hK KK; try simp only [upd_mk]))) | ((with_reducible first | refine o_nil (hT _ _ ?_) | refine h_nil (hT _ ?_)); clear hT KT) | ((first | refine gd fun AA BB hA hB => ?_ | refine tc fun AA BB hA hB => ?_); first | (refine go ?_; (first | refine hA ?_ | refine hB ?_); clear hA hB AA BB) | (refine go2 ?_ ?_ <;> intro hb <;> (first | refine hA ?_ | refine hB ?_) <;> clear hA hB AA BB <;> (try simp only [hb, decide_true, decide_false]) <;> (try (exfalso; first | (simp at hb; done) | (simp at hb; omega))))) | (with_reducible refine skS ?_; simp only [upd_mk]) | with_reducible refine tdr fun KT hT => ?_ | with_reducible refine bY ?_)
     all_goals clear fx)
    all_goals (refine fe ?_; try exact trivial)
    all_goals simp [coreF, hh]
  · have hh' : realm t r = false := by simpa using hh
    refine acall_mk Tryz.func52 rfl Tryz.ntmps52 Tryz.results52 (by kernel_rfl) (by simp) ?_
    simp only [args, Nat.zero_add, Nat.reduceAdd]
    (have fx := (@hh')
     repeat' (first | with_reducible refine go ?_ | with_reducible refine t_region fun KT hT => ?_ | (refine gp fun KK hK => ?_; first | ((with_reducible first | refine .inl ⟨_, _, ⟨realm_i t _ h1, rfl, csq⟩, hK _ _ (nz ?_)⟩ | refine ⟨_, ⟨realm_i t _ h1, rfl, rfl, csq⟩, hK _ (nz ?_)⟩); clear hK KK) | (refine ⟨by first | exact eq_hop, ?_⟩; (first | refine hK _ _ ?_ | refine hK _ (nz ?_)); clear hK KK) | ((repeat refine And.intro (by first | omega | (rw [getD_map_lt (by omega)]; rfl) | (simp; first | done | omega)) ?_); first | (refine hK _ _ ?_; clear hK KK) | (refine hK _ ?_; clear hK KK; try simp only [upd_mk]))) | ((with_reducible first | refine o_nil (hT _ _ ?_) | refine h_nil (hT _ ?_)); clear hT KT) | ((first | refine gd fun AA BB hA hB => ?_ | refine tc fun AA BB hA hB => ?_); first | (refine go ?_; (first | refine hA ?_ | refine hB ?_); clear hA hB AA BB) | (refine go2 ?_ ?_ <;> intro hb <;> (first | refine hA ?_ | refine hB ?_) <;> clear hA hB AA BB <;> (try simp only [hb, decide_true, decide_false]) <;> (try (exfalso; first | (simp at hb; done) | (simp at hb; omega))))) | (with_reducible refine skS ?_; simp only [upd_mk]) | with_reducible refine tdr fun KT hT => ?_ | with_reducible refine bY ?_)
     all_goals clear fx)
    all_goals (refine fe ?_; try exact trivial)
    all_goals simp [coreF, hh']

set_option maxHeartbeats 4000000 in
theorem segKind_i (t : Tp) (s : Sg) (h1 : t.ases.length ≤ 1048576) (h2 : t.links.length ≤ 1048576) (hl : s.hops.length ≤ 1048576) : ACall Tryz.prog 19 [.agg (tpRow t), .agg (segRow s)] (.int .i64 (segKind t s)) [] := by
  by_cases hr : wellF t s = true
  · have h0 := (well_len hr).1
    have e20 := getD_map_lt (f := hopRow) h0
    have e30 : s.hops.getD 0 hz = s.hops[0] := getD_lt h0
    
    rcases Bool.eq_false_or_eq_true (coreF t s.hops[0].asn) with a0 | a0
    · have hk : segKind t s = kindE (kindF t s.hops 0) := by rw [segKind, if_pos (by rw [hr, e30, a0]; rfl)]
      refine acall_mk Tryz.func19 rfl Tryz.ntmps19 Tryz.results19 (by kernel_rfl) (by simp) ?_
      simp only [args, Nat.zero_add, Nat.reduceAdd]
      (have fx := And.intro (@hr) (And.intro (@e20) (And.intro (@h0) (@a0)))
       repeat' (first | with_reducible refine go ?_ | with_reducible refine t_region fun KT hT => ?_ | (refine gp fun KK hK => ?_; first | ((with_reducible first | refine .inl ⟨_, _, ⟨well_i t s h1 h2 hl, rfl, csq⟩, hK _ _ (nz ?_)⟩ | refine .inl ⟨_, _, ⟨core_i t _ h1, rfl, csq⟩, hK _ _ (nz ?_)⟩ | refine ⟨_, ⟨well_i t s h1 h2 hl, rfl, rfl, csq⟩, hK _ (nz ?_)⟩ | refine ⟨_, ⟨core_i t _ h1, rfl, rfl, csq⟩, hK _ (nz ?_)⟩); clear hK KK) | (refine ⟨by first | exact eq_hop, ?_⟩; (first | refine hK _ _ ?_ | refine hK _ (nz ?_)); clear hK KK) | ((repeat refine And.intro (by first | omega | (rw [getD_map_lt (by omega)]; rfl) | (simp; first | done | omega)) ?_); first | (refine hK _ _ ?_; clear hK KK) | (refine hK _ ?_; clear hK KK; try simp only [upd_mk]))) | ((with_reducible first | refine o_nil (hT _ _ ?_) | refine h_nil (hT _ ?_)); clear hT KT) | ((first | refine gd fun AA BB hA hB => ?_ | refine tc fun AA BB hA hB => ?_); first | (refine go ?_; (first | refine hA ?_ | refine hB ?_); clear hA hB AA BB) | (refine go2 ?_ ?_ <;> intro hb <;> (first | refine hA ?_ | refine hB ?_) <;> clear hA hB AA BB <;> (try simp only [hb, decide_true, decide_false]) <;> (try (exfalso; first | (simp at hb; done) | (simp at hb; omega))))) | (with_reducible refine skS ?_; simp only [upd_mk]) | with_reducible refine tdr fun KT hT => ?_ | with_reducible refine bY ?_)
       all_goals clear fx)
      rw [hk]
      refine t_loop (fun a : Nat × Int => [(2, .ptr 2 0 0), (3, .ptr 3 0 0), (24, .sl (s.hops.map hopRow)), (25, .int .i64 s.hops.length), (26, .int .i64 a.1), (5, .int .i64 a.2)]) (fun _ => [(3, .box (segRow s)), (2, .box (tpRow t))]) (fun a => a.1 ≤ s.hops.length ∧ kindF t s.hops 0 = kindF t (s.hops.drop a.1) a.2) (fun a => s.hops.length - a.1) (0, 0) (imp_keep (by simp [Keep, mk]) (by simp [KeepT, mkT]) rfl) ⟨Nat.zero_le _, by simp⟩ ?_
      clear hk
      rintro ⟨k, kd⟩ ⟨hk, hi⟩
      simp only at hk hi
      rcases Nat.lt_or_ge k s.hops.length with h | h
      · have e1 : decide ((k : Int) < (s.hops.length : Int)) = true := by simpa using h
        have e2 := getD_map_lt (f := hopRow) h
        rw [kindF_drop h] at hi
        have c := ifKind_i t s.hops[k].asn s.hops[k].eg h2
        generalize ifKind t s.hops[k].asn s.hops[k].eg = q at *
        rcases Bool.eq_false_or_eq_true (s.hops[k].eg == 0) with b1 | b1 <;> rcases Bool.eq_false_or_eq_true (kd == 0) with b2 | b2 <;> rcases Bool.eq_false_or_eq_true (q == kd) with b3 | b3
        all_goals have n2 : (kd != 0) = !(kd == 0) := rfl
        all_goals have n3 : (q != kd) = !(q == kd) := rfl
        all_goals rw [b2] at n2
        all_goals rw [b3] at n3
        all_goals rw [b1, b2, b3] at hi
        all_goals simp only [Bool.not_true, Bool.not_false, if_true, Bool.false_eq_true, if_false] at n2 n3 hi
        all_goals (have fx := And.intro (@e1) (And.intro (@e2) (And.intro (@h) (And.intro (@b1) (And.intro (@b2) (And.intro (@n2) (@n3))))))
                   repeat' (first | with_reducible refine go ?_ | with_reducible refine t_region fun KT hT => ?_ | (refine gp fun KK hK => ?_; first | ((with_reducible first | refine .inl ⟨_, _, ⟨c, rfl, csq⟩, hK _ _ (nz ?_)⟩ | refine ⟨_, ⟨c, rfl, rfl, csq⟩, hK _ (nz ?_)⟩); clear hK KK) | (refine ⟨by first | exact eq_hop, ?_⟩; (first | refine hK _ _ ?_ | refine hK _ (nz ?_)); clear hK KK) | ((repeat refine And.intro (by first | omega | (rw [getD_map_lt (by omega)]; rfl) | (simp; first | done | omega)) ?_); first | (refine hK _ _ ?_; clear hK KK) | (refine hK _ ?_; clear hK KK; try simp only [upd_mk]))) | ((with_reducible first | refine o_nil (hT _ _ ?_) | refine h_nil (hT _ ?_)); clear hT KT) | ((first | refine gd fun AA BB hA hB => ?_ | refine tc fun AA BB hA hB => ?_); first | (refine go ?_; (first | refine hA ?_ | refine hB ?_); clear hA hB AA BB) | (refine go2 ?_ ?_ <;> intro hb <;> (first | refine hA ?_ | refine hB ?_) <;> clear hA hB AA BB <;> (try simp only [hb, decide_true, decide_false]) <;> (try (exfalso; first | (simp at hb; done) | (simp at hb; omega))))) | (with_reducible refine skS ?_; simp only [upd_mk]) | with_reducible refine tdr fun KT hT => ?_ | with_reducible refine bY ?_)
                   all_goals clear fx)
        all_goals clear c
        all_goals first
          | ((refine fe ?_; try exact trivial); rw [hi]; rfl)
          | (refine k_rnd (k + 1, kd) (imp_drop 7 (imp_keep ?_ ?_ rfl)) ⟨h, hi⟩ (by simp only; omega)
             · simp_all [Keep, mk, scrP, scr, wrapS (show k < 4611686018427387904 by omega)]
             · simp [KeepT, mkT, del, scrT, Ent.scr, scrL, scr])
          | (refine k_rnd (k + 1, q) (imp_drop 7 (imp_keep ?_ ?_ rfl)) ⟨h, hi⟩ (by simp only; omega)
             · simp_all [Keep, mk, scrP, scr, wrapS (show k < 4611686018427387904 by omega)]
             · simp [KeepT, mkT, del, scrT, Ent.scr, scrL, scr])
      · obtain rfl : k = s.hops.length := by omega
        have e1 : decide ((s.hops.length : Int) < (s.hops.length : Int)) = false := by simp
        have hi' : kindE (kindF t s.hops 0) = if (kd == 1) = true then 1 else if (kd == 2) = true then 2 else 0 := by rw [hi, List.drop_length]; rfl
        rw [hi']
        (have fx := (@e1)
         repeat' (first | with_reducible refine go ?_ | with_reducible refine t_region fun KT hT => ?_ | (refine gp fun KK hK => ?_; first | (refine ⟨by first | exact eq_hop, ?_⟩; (first | refine hK _ _ ?_ | refine hK _ (nz ?_)); clear hK KK) | ((repeat refine And.intro (by first | omega | (rw [getD_map_lt (by omega)]; rfl) | (simp; first | done | omega)) ?_); first | (refine hK _ _ ?_; clear hK KK) | (refine hK _ ?_; clear hK KK; try simp only [upd_mk]))) | ((with_reducible first | refine o_nil (hT _ _ ?_) | refine h_nil (hT _ ?_)); clear hT KT) | ((first | refine gd fun AA BB hA hB => ?_ | refine tc fun AA BB hA hB => ?_); first | (refine go ?_; (first | refine hA ?_ | refine hB ?_); clear hA hB AA BB) | (refine go2 ?_ ?_ <;> intro hb <;> (first | refine hA ?_ | refine hB ?_) <;> clear hA hB AA BB <;> (try simp only [hb, decide_true, decide_false]) <;> (try (exfalso; first | (simp at hb; done) | (simp at hb; omega))))) | (with_reducible refine skS ?_; simp only [upd_mk]) | with_reducible refine tdr fun KT hT => ?_ | with_reducible refine bY ?_)
         all_goals clear fx)
        all_goals (refine fe ?_; try exact trivial)
        all_goals simp_all
    · have hk : segKind t s = 0 := by rw [segKind, if_neg (by rw [hr, e30, a0]; simp)]
      refine acall_mk Tryz.func19 rfl Tryz.ntmps19 Tryz.results19 (by kernel_rfl) (by simp) ?_
      simp only [args, Nat.zero_add, Nat.reduceAdd]
      (have fx := And.intro (@hr) (And.intro (@e20) (And.intro (@h0) (@a0)))
       repeat' (first | with_reducible refine go ?_ | with_reducible refine t_region fun KT hT => ?_ | (refine gp fun KK hK => ?_; first | ((with_reducible first | refine .inl ⟨_, _, ⟨well_i t s h1 h2 hl, rfl, csq⟩, hK _ _ (nz ?_)⟩ | refine .inl ⟨_, _, ⟨core_i t _ h1, rfl, csq⟩, hK _ _ (nz ?_)⟩ | refine ⟨_, ⟨well_i t s h1 h2 hl, rfl, rfl, csq⟩, hK _ (nz ?_)⟩ | refine ⟨_, ⟨core_i t _ h1, rfl, rfl, csq⟩, hK _ (nz ?_)⟩); clear hK KK) | (refine ⟨by first | exact eq_hop, ?_⟩; (first | refine hK _ _ ?_ | refine hK _ (nz ?_)); clear hK KK) | ((repeat refine And.intro (by first | omega | (rw [getD_map_lt (by omega)]; rfl) | (simp; first | done | omega)) ?_); first | (refine hK _ _ ?_; clear hK KK) | (refine hK _ ?_; clear hK KK; try simp only [upd_mk]))) | ((with_reducible first | refine o_nil (hT _ _ ?_) | refine h_nil (hT _ ?_)); clear hT KT) | ((first | refine gd fun AA BB hA hB => ?_ | refine tc fun AA BB hA hB => ?_); first | (refine go ?_; (first | refine hA ?_ | refine hB ?_); clear hA hB AA BB) | (refine go2 ?_ ?_ <;> intro hb <;> (first | refine hA ?_ | refine hB ?_) <;> clear hA hB AA BB <;> (try simp only [hb, decide_true, decide_false]) <;> (try (exfalso; first | (simp at hb; done) | (simp at hb; omega))))) | (with_reducible refine skS ?_; simp only [upd_mk]) | with_reducible refine tdr fun KT hT => ?_ | with_reducible refine bY ?_)
       all_goals clear fx)
      (refine fe ?_; try exact trivial)
      rw [hk]
  · have hr' : wellF t s = false := by simpa using hr
    have hk : segKind t s = 0 := by rw [segKind, if_neg (by rw [hr']; simp)]
    refine acall_mk Tryz.func19 rfl Tryz.ntmps19 Tryz.results19 (by kernel_rfl) (by simp) ?_
    simp only [args, Nat.zero_add, Nat.reduceAdd]
    (have fx := (@hr')
     repeat' (first | with_reducible refine go ?_ | with_reducible refine t_region fun KT hT => ?_ | (refine gp fun KK hK => ?_; first | ((with_reducible first | refine .inl ⟨_, _, ⟨well_i t s h1 h2 hl, rfl, csq⟩, hK _ _ (nz ?_)⟩ | refine ⟨_, ⟨well_i t s h1 h2 hl, rfl, rfl, csq⟩, hK _ (nz ?_)⟩); clear hK KK) | (refine ⟨by first | exact eq_hop, ?_⟩; (first | refine hK _ _ ?_ | refine hK _ (nz ?_)); clear hK KK) | ((repeat refine And.intro (by first | omega | (rw [getD_map_lt (by omega)]; rfl) | (simp; first | done | omega)) ?_); first | (refine hK _ _ ?_; clear hK KK) | (refine hK _ ?_; clear hK KK; try simp only [upd_mk]))) | ((with_reducible first | refine o_nil (hT _ _ ?_) | refine h_nil (hT _ ?_)); clear hT KT) | ((first | refine gd fun AA BB hA hB => ?_ | refine tc fun AA BB hA hB => ?_); first | (refine go ?_; (first | refine hA ?_ | refine hB ?_); clear hA hB AA BB) | (refine go2 ?_ ?_ <;> intro hb <;> (first | refine hA ?_ | refine hB ?_) <;> clear hA hB AA BB <;> (try simp only [hb, decide_true, decide_false]) <;> (try (exfalso; first | (simp at hb; done) | (simp at hb; omega))))) | (with_reducible refine skS ?_; simp only [upd_mk]) | with_reducible refine tdr fun KT hT => ?_ | with_reducible refine bY ?_)
     all_goals clear fx)
    (refine fe ?_; try exact trivial)
    rw [hk]

set_option maxHeartbeats 4000000 in
theorem segKind_s (t : Tp) (s : Sg) (h1 : t.ases.length ≤ 1048576) (h2 : t.links.length ≤ 1048576) (hl : s.hops.length ≤ 1048576) : ACall Tryz.prog 34 [.agg (tpRow t), .agg (segRow s)] (.int .i64 (segKind t s)) [] := by
  by_cases hr : wellF t s = true
  · have h0 := (well_len hr).1
    have e20 := getD_map_lt (f := hopRow) h0
    have e30 : s.hops.getD 0 hz = s.hops[0] := getD_lt h0
    have hre := well_realm hr h0
    have hrl := realm_lt hre
    have e40 := getD_map_lt (f := asRow) hrl.2
    have cf := firstAS_s s
    rw [firstAS_well h0] at cf
    have ec : coreF t s.hops[0].asn = t.ases[s.hops[0].asn.toNat].core := by rw [coreF, dif_pos hre]
    rcases Bool.eq_false_or_eq_true (coreF t s.hops[0].asn) with a0 | a0
    · have hk : segKind t s = kindE (kindF t s.hops 0) := by rw [segKind, if_pos (by rw [hr, e30, a0]; rfl)]
      have a0c := ec.symm.trans a0
      refine acall_mk Tryz.func34 rfl Tryz.ntmps34 Tryz.results34 (by kernel_rfl) (by simp) ?_
      simp only [args, Nat.zero_add, Nat.reduceAdd]
      (have fx := And.intro (@hr) (And.intro (@e20) (And.intro (@h0) (And.intro (@e40) (And.intro (@hrl) (@a0c)))))
       repeat' (first | with_reducible refine go ?_ | with_reducible refine t_region fun KT hT => ?_ | (refine gp fun KK hK => ?_; first | ((with_reducible first | refine .inl ⟨_, _, ⟨well_s t s h1 h2 hl, rfl, csq⟩, hK _ _ (nz ?_)⟩ | refine .inl ⟨_, _, ⟨cf, rfl, csq⟩, hK _ _ (nz ?_)⟩ | refine ⟨_, ⟨well_s t s h1 h2 hl, rfl, rfl, csq⟩, hK _ (nz ?_)⟩ | refine ⟨_, ⟨cf, rfl, rfl, csq⟩, hK _ (nz ?_)⟩); clear hK KK) | (refine ⟨by first | exact eq_hop, ?_⟩; (first | refine hK _ _ ?_ | refine hK _ (nz ?_)); clear hK KK) | ((repeat refine And.intro (by first | omega | (rw [getD_map_lt (by omega)]; rfl) | (simp; first | done | omega)) ?_); first | (refine hK _ _ ?_; clear hK KK) | (refine hK _ ?_; clear hK KK; try simp only [upd_mk]))) | ((with_reducible first | refine o_nil (hT _ _ ?_) | refine h_nil (hT _ ?_)); clear hT KT) | ((first | refine gd fun AA BB hA hB => ?_ | refine tc fun AA BB hA hB => ?_); first | (refine go ?_; (first | refine hA ?_ | refine hB ?_); clear hA hB AA BB) | (refine go2 ?_ ?_ <;> intro hb <;> (first | refine hA ?_ | refine hB ?_) <;> clear hA hB AA BB <;> (try simp only [hb, decide_true, decide_false]) <;> (try (exfalso; first | (simp at hb; done) | (simp at hb; omega))))) | (with_reducible refine skS ?_; simp only [upd_mk]) | with_reducible refine tdr fun KT hT => ?_ | with_reducible refine bY ?_)
       all_goals clear fx)
      rw [hk]
      refine t_loop (fun a : Nat × Int => [(2, .ptr 2 0 0), (3, .ptr 3 0 0), (5, .int .i64 a.2), (6, .int .i64 a.1)]) (fun _ => [(3, .box (segRow s)), (2, .box (tpRow t))]) (fun a => a.1 ≤ s.hops.length ∧ kindF t s.hops 0 = kindF t (s.hops.drop a.1) a.2) (fun a => s.hops.length - a.1) (0, 0) (imp_keep (by simp [Keep, mk]) (by simp [KeepT, mkT]) rfl) ⟨Nat.zero_le _, by simp⟩ ?_
      clear hk
      rintro ⟨k, kd⟩ ⟨hk, hi⟩
      simp only at hk hi
      rcases Nat.lt_or_ge k s.hops.length with h | h
      · have e1 : decide ((k : Int) < (s.hops.length : Int)) = true := by simpa using h
        have e2 := getD_map_lt (f := hopRow) h
        rw [kindF_drop h] at hi
        have c := ifKind_s t s.hops[k].asn s.hops[k].eg h2
        generalize ifKind t s.hops[k].asn s.hops[k].eg = q at *
        rcases Bool.eq_false_or_eq_true (s.hops[k].eg == 0) with b1 | b1 <;> rcases Bool.eq_false_or_eq_true (kd == 0) with b2 | b2 <;> rcases Bool.eq_false_or_eq_true (q == kd) with b3 | b3
        all_goals have n2 : (kd != 0) = !(kd == 0) := rfl
        all_goals have n3 : (q != kd) = !(q == kd) := rfl
        all_goals rw [b2] at n2
        all_goals rw [b3] at n3
        all_goals rw [b1, b2, b3] at hi
        all_goals simp only [Bool.not_true, Bool.not_false, if_true, Bool.false_eq_true, if_false] at n2 n3 hi
        all_goals (have fx := And.intro (@e1) (And.intro (@e2) (And.intro (@h) (And.intro (@b1) (And.intro (@b2) (And.intro (@n2) (@n3))))))
                   repeat' (first | with_reducible refine go ?_ | with_reducible refine t_region fun KT hT => ?_ | (refine gp fun KK hK => ?_; first | ((with_reducible first | refine .inl ⟨_, _, ⟨c, rfl, csq⟩, hK _ _ (nz ?_)⟩ | refine ⟨_, ⟨c, rfl, rfl, csq⟩, hK _ (nz ?_)⟩); clear hK KK) | (refine ⟨by first | exact eq_hop, ?_⟩; (first | refine hK _ _ ?_ | refine hK _ (nz ?_)); clear hK KK) | ((repeat refine And.intro (by first | omega | (rw [getD_map_lt (by omega)]; rfl) | (simp; first | done | omega)) ?_); first | (refine hK _ _ ?_; clear hK KK) | (refine hK _ ?_; clear hK KK; try simp only [upd_mk]))) | ((with_reducible first | refine o_nil (hT _ _ ?_) | refine h_nil (hT _ ?_)); clear hT KT) | ((first | refine gd fun AA BB hA hB => ?_ | refine tc fun AA BB hA hB => ?_); first | (refine go ?_; (first | refine hA ?_ | refine hB ?_); clear hA hB AA BB) | (refine go2 ?_ ?_ <;> intro hb <;> (first | refine hA ?_ | refine hB ?_) <;> clear hA hB AA BB <;> (try simp only [hb, decide_true, decide_false]) <;> (try (exfalso; first | (simp at hb; done) | (simp at hb; omega))))) | (with_reducible refine skS ?_; simp only [upd_mk]) | with_reducible refine tdr fun KT hT => ?_ | with_reducible refine bY ?_)
                   all_goals clear fx)
        all_goals clear c
        all_goals first
          | ((refine fe ?_; try exact trivial); rw [hi]; rfl)
          | (refine k_rnd (k + 1, kd) (imp_keep ?_ ?_ rfl) ⟨h, hi⟩ (by simp only; omega)
             · simp_all [Keep, mk, scrP, scr, wrapS (show k < 4611686018427387904 by omega)]
             · simp [KeepT, mkT])
          | (refine k_rnd (k + 1, q) (imp_keep ?_ ?_ rfl) ⟨h, hi⟩ (by simp only; omega)
             · simp_all [Keep, mk, scrP, scr, wrapS (show k < 4611686018427387904 by omega)]
             · simp [KeepT, mkT])
      · obtain rfl : k = s.hops.length := by omega
        have e1 : decide ((s.hops.length : Int) < (s.hops.length : Int)) = false := by simp
        have hi' : kindE (kindF t s.hops 0) = if (kd == 1) = true then 1 else if (kd == 2) = true then 2 else 0 := by rw [hi, List.drop_length]; rfl
        rw [hi']
        (have fx := (@e1)
         repeat' (first | with_reducible refine go ?_ | with_reducible refine t_region fun KT hT => ?_ | (refine gp fun KK hK => ?_; first | (refine ⟨by first | exact eq_hop, ?_⟩; (first | refine hK _ _ ?_ | refine hK _ (nz ?_)); clear hK KK) | ((repeat refine And.intro (by first | omega | (rw [getD_map_lt (by omega)]; rfl) | (simp; first | done | omega)) ?_); first | (refine hK _ _ ?_; clear hK KK) | (refine hK _ ?_; clear hK KK; try simp only [upd_mk]))) | ((with_reducible first | refine o_nil (hT _ _ ?_) | refine h_nil (hT _ ?_)); clear hT KT) | ((first | refine gd fun AA BB hA hB => ?_ | refine tc fun AA BB hA hB => ?_); first | (refine go ?_; (first | refine hA ?_ | refine hB ?_); clear hA hB AA BB) | (refine go2 ?_ ?_ <;> intro hb <;> (first | refine hA ?_ | refine hB ?_) <;> clear hA hB AA BB <;> (try simp only [hb, decide_true, decide_false]) <;> (try (exfalso; first | (simp at hb; done) | (simp at hb; omega))))) | (with_reducible refine skS ?_; simp only [upd_mk]) | with_reducible refine tdr fun KT hT => ?_ | with_reducible refine bY ?_)
         all_goals clear fx)
        all_goals (refine fe ?_; try exact trivial)
        all_goals simp_all
    · have hk : segKind t s = 0 := by rw [segKind, if_neg (by rw [hr, e30, a0]; simp)]
      have a0c := ec.symm.trans a0
      refine acall_mk Tryz.func34 rfl Tryz.ntmps34 Tryz.results34 (by kernel_rfl) (by simp) ?_
      simp only [args, Nat.zero_add, Nat.reduceAdd]
      (have fx := And.intro (@hr) (And.intro (@e20) (And.intro (@h0) (And.intro (@e40) (And.intro (@hrl) (@a0c)))))
       repeat' (first | with_reducible refine go ?_ | with_reducible refine t_region fun KT hT => ?_ | (refine gp fun KK hK => ?_; first | ((with_reducible first | refine .inl ⟨_, _, ⟨well_s t s h1 h2 hl, rfl, csq⟩, hK _ _ (nz ?_)⟩ | refine .inl ⟨_, _, ⟨cf, rfl, csq⟩, hK _ _ (nz ?_)⟩ | refine ⟨_, ⟨well_s t s h1 h2 hl, rfl, rfl, csq⟩, hK _ (nz ?_)⟩ | refine ⟨_, ⟨cf, rfl, rfl, csq⟩, hK _ (nz ?_)⟩); clear hK KK) | (refine ⟨by first | exact eq_hop, ?_⟩; (first | refine hK _ _ ?_ | refine hK _ (nz ?_)); clear hK KK) | ((repeat refine And.intro (by first | omega | (rw [getD_map_lt (by omega)]; rfl) | (simp; first | done | omega)) ?_); first | (refine hK _ _ ?_; clear hK KK) | (refine hK _ ?_; clear hK KK; try simp only [upd_mk]))) | ((with_reducible first | refine o_nil (hT _ _ ?_) | refine h_nil (hT _ ?_)); clear hT KT) | ((first | refine gd fun AA BB hA hB => ?_ | refine tc fun AA BB hA hB => ?_); first | (refine go ?_; (first | refine hA ?_ | refine hB ?_); clear hA hB AA BB) | (refine go2 ?_ ?_ <;> intro hb <;> (first | refine hA ?_ | refine hB ?_) <;> clear hA hB AA BB <;> (try simp only [hb, decide_true, decide_false]) <;> (try (exfalso; first | (simp at hb; done) | (simp at hb; omega))))) | (with_reducible refine skS ?_; simp only [upd_mk]) | with_reducible refine tdr fun KT hT => ?_ | with_reducible refine bY ?_)
       all_goals clear fx)
      (refine fe ?_; try exact trivial)
      rw [hk]
  · have hr' : wellF t s = false := by simpa using hr
    have hk : segKind t s = 0 := by rw [segKind, if_neg (by rw [hr']; simp)]
    refine acall_mk Tryz.func34 rfl Tryz.ntmps34 Tryz.results34 (by kernel_rfl) (by simp) ?_
    simp only [args, Nat.zero_add, Nat.reduceAdd]
    (have fx := (@hr')
     repeat' (first | with_reducible refine go ?_ | with_reducible refine t_region fun KT hT => ?_ | (refine gp fun KK hK => ?_; first | ((with_reducible first | refine .inl ⟨_, _, ⟨well_s t s h1 h2 hl, rfl, csq⟩, hK _ _ (nz ?_)⟩ | refine ⟨_, ⟨well_s t s h1 h2 hl, rfl, rfl, csq⟩, hK _ (nz ?_)⟩); clear hK KK) | (refine ⟨by first | exact eq_hop, ?_⟩; (first | refine hK _ _ ?_ | refine hK _ (nz ?_)); clear hK KK) | ((repeat refine And.intro (by first | omega | (rw [getD_map_lt (by omega)]; rfl) | (simp; first | done | omega)) ?_); first | (refine hK _ _ ?_; clear hK KK) | (refine hK _ ?_; clear hK KK; try simp only [upd_mk]))) | ((with_reducible first | refine o_nil (hT _ _ ?_) | refine h_nil (hT _ ?_)); clear hT KT) | ((first | refine gd fun AA BB hA hB => ?_ | refine tc fun AA BB hA hB => ?_); first | (refine go ?_; (first | refine hA ?_ | refine hB ?_); clear hA hB AA BB) | (refine go2 ?_ ?_ <;> intro hb <;> (first | refine hA ?_ | refine hB ?_) <;> clear hA hB AA BB <;> (try simp only [hb, decide_true, decide_false]) <;> (try (exfalso; first | (simp at hb; done) | (simp at hb; omega))))) | (with_reducible refine skS ?_; simp only [upd_mk]) | with_reducible refine tdr fun KT hT => ?_ | with_reducible refine bY ?_)
     all_goals clear fx)
    (refine fe ?_; try exact trivial)
    rw [hk]

theorem validSeg_i (t : Tp) (s : Sg) (h1 : t.ases.length ≤ 1048576) (h2 : t.links.length ≤ 1048576) (hl : s.hops.length ≤ 1048576) : ACall Tryz.prog 16 [.agg (tpRow t), .agg (segRow s)] (.bool (validSeg t s)) [] := by
  refine acall_mk Tryz.func16 rfl Tryz.ntmps16 Tryz.results16 (by kernel_rfl) (by simp) ?_
  simp only [args, Nat.zero_add, Nat.reduceAdd]
  repeat' (first | with_reducible refine go ?_ | with_reducible refine t_region fun KT hT => ?_ | (refine gp fun KK hK => ?_; first | ((with_reducible first | refine .inl ⟨_, _, ⟨well_i t s h1 h2 hl, rfl, csq⟩, hK _ _ (nz ?_)⟩ | refine .inl ⟨_, _, ⟨fstInv_i t s h1 hl, rfl, csq⟩, hK _ _ (nz ?_)⟩ | refine .inl ⟨_, _, ⟨segKind_i t s h1 h2 hl, rfl, csq⟩, hK _ _ (nz ?_)⟩ | refine .inl ⟨_, _, ⟨inRange_i _ _ _, rfl, csq⟩, hK _ _ (nz ?_)⟩ | refine .inl ⟨_, _, ⟨isRes_i _, rfl, csq⟩, hK _ _ (nz ?_)⟩ | refine ⟨_, ⟨well_i t s h1 h2 hl, rfl, rfl, csq⟩, hK _ (nz ?_)⟩ | refine ⟨_, ⟨fstInv_i t s h1 hl, rfl, rfl, csq⟩, hK _ (nz ?_)⟩ | refine ⟨_, ⟨segKind_i t s h1 h2 hl, rfl, rfl, csq⟩, hK _ (nz ?_)⟩ | refine ⟨_, ⟨inRange_i _ _ _, rfl, rfl, csq⟩, hK _ (nz ?_)⟩ | refine ⟨_, ⟨isRes_i _, rfl, rfl, csq⟩, hK _ (nz ?_)⟩); clear hK KK) | (refine ⟨by first | exact eq_hop, ?_⟩; (first | refine hK _ _ ?_ | refine hK _ (nz ?_)); clear hK KK) | ((repeat refine And.intro (by first | omega | (rw [getD_map_lt (by omega)]; rfl) | (simp; first | done | omega)) ?_); first | (refine hK _ _ ?_; clear hK KK) | (refine hK _ ?_; clear hK KK; try simp only [upd_mk]))) | ((with_reducible first | refine o_nil (hT _ _ ?_) | refine h_nil (hT _ ?_)); clear hT KT) | ((first | refine gd fun AA BB hA hB => ?_ | refine tc fun AA BB hA hB => ?_); first | (refine go ?_; (first | refine hA ?_ | refine hB ?_); clear hA hB AA BB) | (refine go2 ?_ ?_ <;> intro hb <;> (first | refine hA ?_ | refine hB ?_) <;> clear hA hB AA BB <;> (try simp only [hb, decide_true, decide_false]) <;> (try (exfalso; first | (simp at hb; done) | (simp at hb; omega))))) | (with_reducible refine skS ?_; simp only [upd_mk]) | with_reducible refine tdr fun KT hT => ?_ | with_reducible refine bY ?_)
  all_goals (refine fe ?_; try exact trivial)
  all_goals (simp_all [validSeg] <;> (intros; omega))

set_option maxHeartbeats 4000000 in
theorem canExt_i (t : Tp) (s : Sg) (r inn : Int) (h1 : t.ases.length ≤ 1048576) (h2 : t.links.length ≤ 1048576) (hl : s.hops.length ≤ 1048576) : ACall Tryz.prog 11 [.agg (tpRow t), .agg (segRow s), .int .i64 r, .int .i64 inn] (.bool (canExt t s r inn)) [] := by
  by_cases hv0 : validSeg t s = true
  · have h0 := (well_len (validSeg_well hv0)).1
    have h' : s.hops.length - 1 < s.hops.length := by omega
    have w2 := wrapP h0 (by omega)
    have e4 := getD_map_lt (f := hopRow) h'
    have e8 : s.hops.getD (s.hops.length - 1) hz = s.hops[s.hops.length - 1] := getD_lt h'
    have hq : canExt t s r inn = (realm t r && !isTerm s && !hasI (ases s.hops) r && ((remote t s.hops[s.hops.length - 1].asn s.hops[s.hops.length - 1].eg).1 == r && (remote t s.hops[s.hops.length - 1].asn s.hops[s.hops.length - 1].eg).2 == inn)) := by
      simp only [canExt, hv0, e8, Bool.and_true]
    rw [hq]
    clear hq e8
    have c := remote_i t s.hops[s.hops.length - 1].asn s.hops[s.hops.length - 1].eg h2
    generalize remote t s.hops[s.hops.length - 1].asn s.hops[s.hops.length - 1].eg = q at *
    obtain ⟨q1, q2⟩ := q
    simp only at c ⊢
    have hla : (ases s.hops).length ≤ 16777216 := by simp only [ases, List.length_map]; omega
    refine acall_mk Tryz.func11 rfl Tryz.ntmps11 Tryz.results11 (by kernel_rfl) (by simp) ?_
    simp only [args, Nat.zero_add, Nat.reduceAdd]
    (have fx := And.intro (@hv0) (And.intro (@h') (And.intro (@w2) (@e4)))
     repeat' (first | with_reducible refine go ?_ | with_reducible refine t_region fun KT hT => ?_ | (refine gp fun KK hK => ?_; first | ((with_reducible first | refine .inl ⟨_, _, ⟨realm_i t _ h1, rfl, csq⟩, hK _ _ (nz ?_)⟩ | refine .inl ⟨_, _, ⟨validSeg_i t s h1 h2 hl, rfl, csq⟩, hK _ _ (nz ?_)⟩ | refine .inl ⟨_, _, ⟨isTerm_i s hl, rfl, csq⟩, hK _ _ (nz ?_)⟩ | refine .inl ⟨_, _, ⟨ases_i s hl, rfl, csq⟩, hK _ _ (nz ?_)⟩ | refine .inl ⟨_, _, ⟨hasI_i (ases s.hops) _ hla, rfl, csq⟩, hK _ _ (nz ?_)⟩ | refine .inl ⟨_, _, ⟨c, rfl, csq⟩, hK _ _ (nz ?_)⟩ | refine ⟨_, ⟨realm_i t _ h1, rfl, rfl, csq⟩, hK _ (nz ?_)⟩ | refine ⟨_, ⟨validSeg_i t s h1 h2 hl, rfl, rfl, csq⟩, hK _ (nz ?_)⟩ | refine ⟨_, ⟨isTerm_i s hl, rfl, rfl, csq⟩, hK _ (nz ?_)⟩ | refine ⟨_, ⟨ases_i s hl, rfl, rfl, csq⟩, hK _ (nz ?_)⟩ | refine ⟨_, ⟨hasI_i (ases s.hops) _ hla, rfl, rfl, csq⟩, hK _ (nz ?_)⟩ | refine ⟨_, ⟨c, rfl, rfl, csq⟩, hK _ (nz ?_)⟩); clear hK KK) | (refine ⟨by first | exact eq_hop, ?_⟩; (first | refine hK _ _ ?_ | refine hK _ (nz ?_)); clear hK KK) | ((repeat refine And.intro (by first | omega | (rw [getD_map_lt (by omega)]; rfl) | (simp; first | done | omega)) ?_); first | (refine hK _ _ ?_; clear hK KK) | (refine hK _ ?_; clear hK KK; try simp only [upd_mk]))) | ((with_reducible first | refine o_nil (hT _ _ ?_) | refine h_nil (hT _ ?_)); clear hT KT) | ((first | refine gd fun AA BB hA hB => ?_ | refine tc fun AA BB hA hB => ?_); first | (refine go ?_; (first | refine hA ?_ | refine hB ?_); clear hA hB AA BB) | (refine go2 ?_ ?_ <;> intro hb <;> (first | refine hA ?_ | refine hB ?_) <;> clear hA hB AA BB <;> (try simp only [hb, decide_true, decide_false]) <;> (try (exfalso; first | (simp at hb; done) | (simp at hb; omega))))) | (with_reducible refine skS ?_; simp only [upd_mk]) | with_reducible refine tdr fun KT hT => ?_ | with_reducible refine bY ?_)
     all_goals clear fx)
    all_goals (refine fe ?_; try exact trivial)
    all_goals simp_all
  · have hv1 : validSeg t s = false := by simpa using hv0
    have hq : canExt t s r inn = false := by simp only [canExt, hv1, Bool.and_false, Bool.false_and]
    rw [hq]
    refine acall_mk Tryz.func11 rfl Tryz.ntmps11 Tryz.results11 (by kernel_rfl) (by simp) ?_
    simp only [args, Nat.zero_add, Nat.reduceAdd]
    (have fx := (@hv1)
     repeat' (first | with_reducible refine go ?_ | with_reducible refine t_region fun KT hT => ?_ | (refine gp fun KK hK => ?_; first | ((with_reducible first | refine .inl ⟨_, _, ⟨realm_i t _ h1, rfl, csq⟩, hK _ _ (nz ?_)⟩ | refine .inl ⟨_, _, ⟨validSeg_i t s h1 h2 hl, rfl, csq⟩, hK _ _ (nz ?_)⟩ | refine ⟨_, ⟨realm_i t _ h1, rfl, rfl, csq⟩, hK _ (nz ?_)⟩ | refine ⟨_, ⟨validSeg_i t s h1 h2 hl, rfl, rfl, csq⟩, hK _ (nz ?_)⟩); clear hK KK) | (refine ⟨by first | exact eq_hop, ?_⟩; (first | refine hK _ _ ?_ | refine hK _ (nz ?_)); clear hK KK) | ((repeat refine And.intro (by first | omega | (rw [getD_map_lt (by omega)]; rfl) | (simp; first | done | omega)) ?_); first | (refine hK _ _ ?_; clear hK KK) | (refine hK _ ?_; clear hK KK; try simp only [upd_mk]))) | ((with_reducible first | refine o_nil (hT _ _ ?_) | refine h_nil (hT _ ?_)); clear hT KT) | ((first | refine gd fun AA BB hA hB => ?_ | refine tc fun AA BB hA hB => ?_); first | (refine go ?_; (first | refine hA ?_ | refine hB ?_); clear hA hB AA BB) | (refine go2 ?_ ?_ <;> intro hb <;> (first | refine hA ?_ | refine hB ?_) <;> clear hA hB AA BB <;> (try simp only [hb, decide_true, decide_false]) <;> (try (exfalso; first | (simp at hb; done) | (simp at hb; omega))))) | (with_reducible refine skS ?_; simp only [upd_mk]) | with_reducible refine tdr fun KT hT => ?_ | with_reducible refine bY ?_)
     all_goals clear fx)
    all_goals (refine fe ?_; try exact trivial)

theorem validSeg_s (t : Tp) (s : Sg) (h1 : t.ases.length ≤ 1048576) (h2 : t.links.length ≤ 1048576) (hl : s.hops.length ≤ 1048576) : ACall Tryz.prog 44 [.agg (tpRow t), .agg (segRow s)] (.bool (validSeg t s)) [] := by
  refine acall_mk Tryz.func44 rfl Tryz.ntmps44 Tryz.results44 (by kernel_rfl) (by simp) ?_
  simp only [args, Nat.zero_add, Nat.reduceAdd]
  repeat' (first | with_reducible refine go ?_ | with_reducible refine t_region fun KT hT => ?_ | (refine gp fun KK hK => ?_; first | ((with_reducible first | refine .inl ⟨_, _, ⟨well_s t s h1 h2 hl, rfl, csq⟩, hK _ _ (nz ?_)⟩ | refine .inl ⟨_, _, ⟨fstInv_s t s h1 hl, rfl, csq⟩, hK _ _ (nz ?_)⟩ | refine .inl ⟨_, _, ⟨segKind_s t s h1 h2 hl, rfl, csq⟩, hK _ _ (nz ?_)⟩ | refine .inl ⟨_, _, ⟨l1In_s _ _ _, rfl, csq⟩, hK _ _ (nz ?_)⟩ | refine .inl ⟨_, _, ⟨isRes_s _, rfl, csq⟩, hK _ _ (nz ?_)⟩ | refine ⟨_, ⟨well_s t s h1 h2 hl, rfl, rfl, csq⟩, hK _ (nz ?_)⟩ | refine ⟨_, ⟨fstInv_s t s h1 hl, rfl, rfl, csq⟩, hK _ (nz ?_)⟩ | refine ⟨_, ⟨segKind_s t s h1 h2 hl, rfl, rfl, csq⟩, hK _ (nz ?_)⟩ | refine ⟨_, ⟨l1In_s _ _ _, rfl, rfl, csq⟩, hK _ (nz ?_)⟩ | refine ⟨_, ⟨isRes_s _, rfl, rfl, csq⟩, hK _ (nz ?_)⟩); clear hK KK) | (refine ⟨by first | exact eq_hop, ?_⟩; (first | refine hK _ _ ?_ | refine hK _ (nz ?_)); clear hK KK) | ((repeat refine And.intro (by first | omega | (rw [getD_map_lt (by omega)]; rfl) | (simp; first | done | omega)) ?_); first | (refine hK _ _ ?_; clear hK KK) | (refine hK _ ?_; clear hK KK; try simp only [upd_mk]))) | ((with_reducible first | refine o_nil (hT _ _ ?_) | refine h_nil (hT _ ?_)); clear hT KT) | ((first | refine gd fun AA BB hA hB => ?_ | refine tc fun AA BB hA hB => ?_); first | (refine go ?_; (first | refine hA ?_ | refine hB ?_); clear hA hB AA BB) | (refine go2 ?_ ?_ <;> intro hb <;> (first | refine hA ?_ | refine hB ?_) <;> clear hA hB AA BB <;> (try simp only [hb, decide_true, decide_false]) <;> (try (exfalso; first | (simp at hb; done) | (simp at hb; omega))))) | (with_reducible refine skS ?_; simp only [upd_mk]) | with_reducible refine tdr fun KT hT => ?_ | with_reducible refine bY ?_)
  all_goals (refine fe ?_; try exact trivial)
  all_goals (simp_all [validSeg] <;> (intros; omega))

end Go.Proofs.YtmiclkgkfkcnoaaGreat
