/- The functions of this program, walked by the evaluator: part i, 2. -/
import Derived.Test.YtmiclkgkfkcnoaaGreatLg1
import Derived.Test.YtmiclkgkfkcnoaaGreatLi1
namespace Go.Proofs.YtmiclkgkfkcnoaaGreat
open Go.RowKit
set_option linter.unusedSimpArgs false
set_option linter.unusedVariables false
set_option maxRecDepth 100000
set_option linter.defProp false
namespace GLi2
def gx := And.intro (@hopRow.eq_1) (And.intro (@polRow.eq_1) (And.intro (@segRow.eq_1) (And.intro (@intRow.eq_1) (And.intro (@rowLen_ints) (And.intro (@rowLen_nil) (And.intro (@rowLen_cons) (And.intro (@rowLen_append) (And.intro (@lenL_app) (And.intro (@byteRow.eq_1) (And.intro (@rowLen_bytes) (And.intro (@bytesOf_map) (And.intro (@bytesOf_cons) (And.intro (@bytesOf_one) (And.intro (@rowLen_strs) (And.intro (@asRow.eq_1) (And.intro (@lkRow.eq_1) (And.intro (@tpRow.eq_1) (And.intro (@rowLen_hops) (And.intro (@rowLen_ases) (@rowLen_links))))))))))))))))))))
end GLi2
open GLi2
theorem allows_i (p : Pl) (s : Sg) (out : Int) (hl : s.hops.length ≤ 1048576) : ACall Tryz.prog 20 [.agg (polRow p), .agg (segRow s), .int .i64 out] (.bool (allows p s out)) [] := by
  have hal : (ases s.hops).length = s.hops.length := by simp [ases]
  have ca := ases_i s hl
  by_cases h1 : (s.hops.length : Int) < p.ml ∧ cont p.clo out = false
  · have e1 : decide (p.ml ≤ (s.hops.length : Int)) = false := decide_eq_false (by omega)
    obtain ⟨_, e2⟩ := h1
    refine acall_mk Tryz.func20 rfl Tryz.ntmps20 Tryz.results20 (by kernel_rfl) (by simp) ?_
    simp only [args, Nat.zero_add, Nat.reduceAdd]
    (have fx := And.intro (@e1) (@e2)
     repeat' (first | with_reducible refine go ?_ | with_reducible refine t_region fun KT hT => ?_ | (refine gp fun KK hK => ?_; first | ((with_reducible first | refine .inl ⟨_, _, ⟨cont_i _ _, rfl, csq⟩, hK _ _ (nz ?_)⟩ | refine .inl ⟨_, _, ⟨ca, rfl, csq⟩, hK _ _ (nz ?_)⟩ | refine ⟨_, ⟨cont_i _ _, rfl, rfl, csq⟩, hK _ (nz ?_)⟩ | refine ⟨_, ⟨ca, rfl, rfl, csq⟩, hK _ (nz ?_)⟩); clear hK KK) | (refine ⟨by first | exact eq_hop, ?_⟩; (first | refine hK _ _ ?_ | refine hK _ (nz ?_)); clear hK KK) | ((repeat refine And.intro (by first | omega | (rw [getD_map_lt (by omega)]; rfl) | (simp; first | done | omega)) ?_); first | (refine hK _ _ ?_; clear hK KK) | (refine hK _ ?_; clear hK KK; try simp only [upd_mk]))) | ((with_reducible first | refine o_nil (hT _ _ ?_) | refine h_nil (hT _ ?_)); clear hT KT) | ((first | refine gd fun AA BB hA hB => ?_ | refine tc fun AA BB hA hB => ?_); first | (refine go ?_; (first | refine hA ?_ | refine hB ?_); clear hA hB AA BB) | (refine go2 ?_ ?_ <;> intro hb <;> (first | refine hA ?_ | refine hB ?_) <;> clear hA hB AA BB <;> (try simp only [hb, decide_true, decide_false]) <;> (try (exfalso; first | (simp at hb; done) | (simp at hb; omega))))) | (with_reducible refine skS ?_; simp only [upd_mk]) | with_reducible refine tdr fun KT hT => ?_ | with_reducible refine bY ?_)
     all_goals clear fx)
    have hall : allows p s out = (decide ((s.hops.length : Int) < p.ml) && !cont p.clo out && (ases s.hops).all fun r => !cont p.den r) := rfl
    generalize ases s.hops = l at *
    refine t_loop (fun k : Nat => [(3, .ptr 3 0 0), (22, .fs 1022), (23, .int .i64 l.length), (24, .int .i64 k)]) (fun _ => [(1022, .row (l.map intRow)), (4, .box (segRow s)), (3, .box (polRow p))]) (fun k => k ≤ l.length ∧ (l.take k).all (fun r => !cont p.den r) = true) (fun k => l.length - k) 0 (imp_keep (by simp [Keep, mk]) (by simp [KeepT, mkT]) rfl) ⟨Nat.zero_le _, by simp⟩ ?_
    rintro k ⟨hk, ha⟩
    rcases Nat.lt_or_ge k l.length with h | h
    · have e1 : decide ((k : Int) < (l.length : Int)) = true := by simpa using h
      have e2 := getD_map_lt (f := intRow) h
      (have fx := And.intro (@e1) (And.intro (@e2) (@h))
       repeat' (first | with_reducible refine go ?_ | with_reducible refine t_region fun KT hT => ?_ | (refine gp fun KK hK => ?_; first | ((with_reducible first | refine .inl ⟨_, _, ⟨cont_i _ _, rfl, csq⟩, hK _ _ (nz ?_)⟩ | refine ⟨_, ⟨cont_i _ _, rfl, rfl, csq⟩, hK _ (nz ?_)⟩); clear hK KK) | (refine ⟨by first | exact eq_hop, ?_⟩; (first | refine hK _ _ ?_ | refine hK _ (nz ?_)); clear hK KK) | ((repeat refine And.intro (by first | omega | (rw [getD_map_lt (by omega)]; rfl) | (simp; first | done | omega)) ?_); first | (refine hK _ _ ?_; clear hK KK) | (refine hK _ ?_; clear hK KK; try simp only [upd_mk]))) | ((with_reducible first | refine o_nil (hT _ _ ?_) | refine h_nil (hT _ ?_)); clear hT KT) | ((first | refine gd fun AA BB hA hB => ?_ | refine tc fun AA BB hA hB => ?_); first | (refine go ?_; (first | refine hA ?_ | refine hB ?_); clear hA hB AA BB) | (refine go2 ?_ ?_ <;> intro hb <;> (first | refine hA ?_ | refine hB ?_) <;> clear hA hB AA BB <;> (try simp only [hb, decide_true, decide_false]) <;> (try (exfalso; first | (simp at hb; done) | (simp at hb; omega))))) | (with_reducible refine skS ?_; simp only [upd_mk]) | with_reducible refine tdr fun KT hT => ?_ | with_reducible refine bY ?_)
       all_goals clear fx)
      · (refine fe ?_; try exact trivial)
        rw [hall, not_allI h (by simpa using hb)]; simp
      · refine k_rnd (k + 1) (imp_keep ?_ (by simp [KeepT, mkT]) rfl) ⟨h, ?_⟩ (by omega)
        · simp [Keep, mk, wrapS (show k < 4611686018427387904 by omega)]
        · rw [all_stepI h, ha]; simpa using hb
    · obtain rfl : k = l.length := by omega
      have e1 : decide ((l.length : Int) < (l.length : Int)) = false := by simp
      (have fx := (@e1)
       repeat' (first | with_reducible refine go ?_ | with_reducible refine t_region fun KT hT => ?_ | (refine gp fun KK hK => ?_; first | (refine ⟨by first | exact eq_hop, ?_⟩; (first | refine hK _ _ ?_ | refine hK _ (nz ?_)); clear hK KK) | ((repeat refine And.intro (by first | omega | (rw [getD_map_lt (by omega)]; rfl) | (simp; first | done | omega)) ?_); first | (refine hK _ _ ?_; clear hK KK) | (refine hK _ ?_; clear hK KK; try simp only [upd_mk]))) | ((with_reducible first | refine o_nil (hT _ _ ?_) | refine h_nil (hT _ ?_)); clear hT KT) | ((first | refine gd fun AA BB hA hB => ?_ | refine tc fun AA BB hA hB => ?_); first | (refine go ?_; (first | refine hA ?_ | refine hB ?_); clear hA hB AA BB) | (refine go2 ?_ ?_ <;> intro hb <;> (first | refine hA ?_ | refine hB ?_) <;> clear hA hB AA BB <;> (try simp only [hb, decide_true, decide_false]) <;> (try (exfalso; first | (simp at hb; done) | (simp at hb; omega))))) | (with_reducible refine skS ?_; simp only [upd_mk]) | with_reducible refine tdr fun KT hT => ?_ | with_reducible refine bY ?_)
       all_goals clear fx)
      (refine fe ?_; try exact trivial)
      rw [List.take_length] at ha
      simp_all
  · have e2 : cont p.clo out = true ∨ decide (p.ml ≤ (s.hops.length : Int)) = true := by
      rcases Bool.eq_false_or_eq_true (cont p.clo out) with e | e
      · exact .inl e
      · exact .inr (decide_eq_true (Int.not_lt.1 fun hc => h1 ⟨hc, e⟩))
    have ea : allows p s out = false := by
      simp only [allows]
      rcases e2 with e | e
      · simp [e]
      · simp only [decide_eq_true_eq] at e; simp; omega
    rcases e2 with e | e
    · by_cases e3 : decide (p.ml ≤ (s.hops.length : Int)) = true
      · refine acall_mk Tryz.func20 rfl Tryz.ntmps20 Tryz.results20 (by kernel_rfl) (by simp) ?_
        simp only [args, Nat.zero_add, Nat.reduceAdd]
        (have fx := And.intro (@e3) (@e)
         repeat' (first | with_reducible refine go ?_ | with_reducible refine t_region fun KT hT => ?_ | (refine gp fun KK hK => ?_; first | ((with_reducible first | refine .inl ⟨_, _, ⟨cont_i _ _, rfl, csq⟩, hK _ _ (nz ?_)⟩ | refine ⟨_, ⟨cont_i _ _, rfl, rfl, csq⟩, hK _ (nz ?_)⟩); clear hK KK) | (refine ⟨by first | exact eq_hop, ?_⟩; (first | refine hK _ _ ?_ | refine hK _ (nz ?_)); clear hK KK) | ((repeat refine And.intro (by first | omega | (rw [getD_map_lt (by omega)]; rfl) | (simp; first | done | omega)) ?_); first | (refine hK _ _ ?_; clear hK KK) | (refine hK _ ?_; clear hK KK; try simp only [upd_mk]))) | ((with_reducible first | refine o_nil (hT _ _ ?_) | refine h_nil (hT _ ?_)); clear hT KT) | ((first | refine gd fun AA BB hA hB => ?_ | refine tc fun AA BB hA hB => ?_); first | (refine go ?_; (first | refine hA ?_ | refine hB ?_); clear hA hB AA BB) | (refine go2 ?_ ?_ <;> intro hb <;> (first | refine hA ?_ | refine hB ?_) <;> clear hA hB AA BB <;> (try simp only [hb, decide_true, decide_false]) <;> (try (exfalso; first | (simp at hb; done) | (simp at hb; omega))))) | (with_reducible refine skS ?_; simp only [upd_mk]) | with_reducible refine tdr fun KT hT => ?_ | with_reducible refine bY ?_)
         all_goals clear fx)
        all_goals (refine fe ?_; try exact trivial)
        all_goals rw [ea]
      · have e3' : decide (p.ml ≤ (s.hops.length : Int)) = false := by simpa using e3
        refine acall_mk Tryz.func20 rfl Tryz.ntmps20 Tryz.results20 (by kernel_rfl) (by simp) ?_
        simp only [args, Nat.zero_add, Nat.reduceAdd]
        (have fx := And.intro (@e3') (@e)
         repeat' (first | with_reducible refine go ?_ | with_reducible refine t_region fun KT hT => ?_ | (refine gp fun KK hK => ?_; first | ((with_reducible first | refine .inl ⟨_, _, ⟨cont_i _ _, rfl, csq⟩, hK _ _ (nz ?_)⟩ | refine ⟨_, ⟨cont_i _ _, rfl, rfl, csq⟩, hK _ (nz ?_)⟩); clear hK KK) | (refine ⟨by first | exact eq_hop, ?_⟩; (first | refine hK _ _ ?_ | refine hK _ (nz ?_)); clear hK KK) | ((repeat refine And.intro (by first | omega | (rw [getD_map_lt (by omega)]; rfl) | (simp; first | done | omega)) ?_); first | (refine hK _ _ ?_; clear hK KK) | (refine hK _ ?_; clear hK KK; try simp only [upd_mk]))) | ((with_reducible first | refine o_nil (hT _ _ ?_) | refine h_nil (hT _ ?_)); clear hT KT) | ((first | refine gd fun AA BB hA hB => ?_ | refine tc fun AA BB hA hB => ?_); first | (refine go ?_; (first | refine hA ?_ | refine hB ?_); clear hA hB AA BB) | (refine go2 ?_ ?_ <;> intro hb <;> (first | refine hA ?_ | refine hB ?_) <;> clear hA hB AA BB <;> (try simp only [hb, decide_true, decide_false]) <;> (try (exfalso; first | (simp at hb; done) | (simp at hb; omega))))) | (with_reducible refine skS ?_; simp only [upd_mk]) | with_reducible refine tdr fun KT hT => ?_ | with_reducible refine bY ?_)
         all_goals clear fx)
        all_goals (refine fe ?_; try exact trivial)
        all_goals rw [ea]
    · refine acall_mk Tryz.func20 rfl Tryz.ntmps20 Tryz.results20 (by kernel_rfl) (by simp) ?_
      simp only [args, Nat.zero_add, Nat.reduceAdd]
      (have fx := (@e)
       repeat' (first | with_reducible refine go ?_ | with_reducible refine t_region fun KT hT => ?_ | (refine gp fun KK hK => ?_; first | ((with_reducible first | refine .inl ⟨_, _, ⟨cont_i _ _, rfl, csq⟩, hK _ _ (nz ?_)⟩ | refine ⟨_, ⟨cont_i _ _, rfl, rfl, csq⟩, hK _ (nz ?_)⟩); clear hK KK) | (refine ⟨by first | exact eq_hop, ?_⟩; (first | refine hK _ _ ?_ | refine hK _ (nz ?_)); clear hK KK) | ((repeat refine And.intro (by first | omega | (rw [getD_map_lt (by omega)]; rfl) | (simp; first | done | omega)) ?_); first | (refine hK _ _ ?_; clear hK KK) | (refine hK _ ?_; clear hK KK; try simp only [upd_mk]))) | ((with_reducible first | refine o_nil (hT _ _ ?_) | refine h_nil (hT _ ?_)); clear hT KT) | ((first | refine gd fun AA BB hA hB => ?_ | refine tc fun AA BB hA hB => ?_); first | (refine go ?_; (first | refine hA ?_ | refine hB ?_); clear hA hB AA BB) | (refine go2 ?_ ?_ <;> intro hb <;> (first | refine hA ?_ | refine hB ?_) <;> clear hA hB AA BB <;> (try simp only [hb, decide_true, decide_false]) <;> (try (exfalso; first | (simp at hb; done) | (simp at hb; omega))))) | (with_reducible refine skS ?_; simp only [upd_mk]) | with_reducible refine tdr fun KT hT => ?_ | with_reducible refine bY ?_)
       all_goals clear fx)
      all_goals (refine fe ?_; try exact trivial)
      all_goals rw [ea]

theorem allows_s (p : Pl) (s : Sg) (out : Int) (hl : s.hops.length ≤ 1048576) : ACall Tryz.prog 32 [.agg (polRow p), .agg (segRow s), .int .i64 out] (.bool (allows p s out)) [] := by
  have hal : (ases s.hops).length = s.hops.length := by simp [ases]
  have ca := ases_s s hl
  refine acall_mk Tryz.func32 rfl Tryz.ntmps32 Tryz.results32 (by kernel_rfl) (by simp) ?_
  simp only [args, Nat.zero_add, Nat.reduceAdd]
  repeat' (first | with_reducible refine go ?_ | with_reducible refine t_region fun KT hT => ?_ | (refine gp fun KK hK => ?_; first | ((with_reducible first | refine .inl ⟨_, _, ⟨ca, rfl, csq⟩, hK _ _ (nz ?_)⟩ | refine ⟨_, ⟨ca, rfl, rfl, csq⟩, hK _ (nz ?_)⟩); clear hK KK) | (refine ⟨by first | exact eq_hop, ?_⟩; (first | refine hK _ _ ?_ | refine hK _ (nz ?_)); clear hK KK) | ((repeat refine And.intro (by first | omega | (rw [getD_map_lt (by omega)]; rfl) | (simp; first | done | omega)) ?_); first | (refine hK _ _ ?_; clear hK KK) | (refine hK _ ?_; clear hK KK; try simp only [upd_mk]))) | ((with_reducible first | refine o_nil (hT _ _ ?_) | refine h_nil (hT _ ?_)); clear hT KT) | ((first | refine gd fun AA BB hA hB => ?_ | refine tc fun AA BB hA hB => ?_); first | (refine go ?_; (first | refine hA ?_ | refine hB ?_); clear hA hB AA BB) | (refine go2 ?_ ?_ <;> intro hb <;> (first | refine hA ?_ | refine hB ?_) <;> clear hA hB AA BB <;> (try simp only [hb, decide_true, decide_false]) <;> (try (exfalso; first | (simp at hb; done) | (simp at hb; omega))))) | (with_reducible refine skS ?_; simp only [upd_mk]) | with_reducible refine tdr fun KT hT => ?_ | with_reducible refine bY ?_)
  have hall : allows p s out = (decide ((s.hops.length : Int) < p.ml) && !cont p.clo out && (ases s.hops).all fun r => !cont p.den r) := rfl
  generalize ases s.hops = l at *
  refine t_loop (fun k : Nat => [(2, .int .i64 out), (3, .ptr 3 0 0), (4, .ptr 4 0 0), (7, .fs 1010), (8, .int .i64 k)]) (fun _ => [(1010, .row (l.map intRow)), (4, .box (segRow s)), (3, .box (polRow p))]) (fun k => k ≤ l.length ∧ (l.take k).all (fun r => !cont p.den r) = true) (fun k => l.length - k) 0 (imp_keep (by simp [Keep, mk]) (by simp [KeepT, mkT]) rfl) ⟨Nat.zero_le _, by simp⟩ ?_
  rintro k ⟨hk, ha⟩
  rcases Nat.lt_or_ge k l.length with h | h
  · have e1 : decide ((k : Int) < (l.length : Int)) = true := by simpa using h
    have e2 := getD_map_lt (f := intRow) h
    (have fx := And.intro (@e1) (And.intro (@e2) (@h))
     repeat' (first | with_reducible refine go ?_ | with_reducible refine t_region fun KT hT => ?_ | (refine gp fun KK hK => ?_; first | ((with_reducible first | refine .inl ⟨_, _, ⟨cont_s _ _, rfl, csq⟩, hK _ _ (nz ?_)⟩ | refine ⟨_, ⟨cont_s _ _, rfl, rfl, csq⟩, hK _ (nz ?_)⟩); clear hK KK) | (refine ⟨by first | exact eq_hop, ?_⟩; (first | refine hK _ _ ?_ | refine hK _ (nz ?_)); clear hK KK) | ((repeat refine And.intro (by first | omega | (rw [getD_map_lt (by omega)]; rfl) | (simp; first | done | omega)) ?_); first | (refine hK _ _ ?_; clear hK KK) | (refine hK _ ?_; clear hK KK; try simp only [upd_mk]))) | ((with_reducible first | refine o_nil (hT _ _ ?_) | refine h_nil (hT _ ?_)); clear hT KT) | ((first | refine gd fun AA BB hA hB => ?_ | refine tc fun AA BB hA hB => ?_); first | (refine go ?_; (first | refine hA ?_ | refine hB ?_); clear hA hB AA BB) | (refine go2 ?_ ?_ <;> intro hb <;> (first | refine hA ?_ | refine hB ?_) <;> clear hA hB AA BB <;> (try simp only [hb, decide_true, decide_false]) <;> (try (exfalso; first | (simp at hb; done) | (simp at hb; omega))))) | (with_reducible refine skS ?_; simp only [upd_mk]) | with_reducible refine tdr fun KT hT => ?_ | with_reducible refine bY ?_)
     all_goals clear fx)
    · (refine fe ?_; try exact trivial)
      rw [hall, not_allI h (by simpa using hb)]; simp
    · refine k_rnd (k + 1) (imp_keep ?_ (by simp [KeepT, mkT]) rfl) ⟨h, ?_⟩ (by omega)
      · simp [Keep, mk, wrapS (show k < 4611686018427387904 by omega)]
      · rw [all_stepI h, ha]; simpa using hb
  · obtain rfl : k = l.length := by omega
    have e1 : decide ((l.length : Int) < (l.length : Int)) = false := by simp
    (have fx := (@e1)
     repeat' (first | with_reducible refine go ?_ | with_reducible refine t_region fun KT hT => ?_ | (refine gp fun KK hK => ?_; first | ((with_reducible first | refine .inl ⟨_, _, ⟨cont_s _ _, rfl, csq⟩, hK _ _ (nz ?_)⟩ | refine ⟨_, ⟨cont_s _ _, rfl, rfl, csq⟩, hK _ (nz ?_)⟩); clear hK KK) | (refine ⟨by first | exact eq_hop, ?_⟩; (first | refine hK _ _ ?_ | refine hK _ (nz ?_)); clear hK KK) | ((repeat refine And.intro (by first | omega | (rw [getD_map_lt (by omega)]; rfl) | (simp; first | done | omega)) ?_); first | (refine hK _ _ ?_; clear hK KK) | (refine hK _ ?_; clear hK KK; try simp only [upd_mk]))) | ((with_reducible first | refine o_nil (hT _ _ ?_) | refine h_nil (hT _ ?_)); clear hT KT) | ((first | refine gd fun AA BB hA hB => ?_ | refine tc fun AA BB hA hB => ?_); first | (refine go ?_; (first | refine hA ?_ | refine hB ?_); clear hA hB AA BB) | (refine go2 ?_ ?_ <;> intro hb <;> (first | refine hA ?_ | refine hB ?_) <;> clear hA hB AA BB <;> (try simp only [hb, decide_true, decide_false]) <;> (try (exfalso; first | (simp at hb; done) | (simp at hb; omega))))) | (with_reducible refine skS ?_; simp only [upd_mk]) | with_reducible refine tdr fun KT hT => ?_ | with_reducible refine bY ?_)
     all_goals clear fx)
    all_goals (refine fe ?_; try exact trivial)
    all_goals rw [List.take_length] at ha
    all_goals simp_all

end Go.Proofs.YtmiclkgkfkcnoaaGreat
