/- The functions of this program, walked by the evaluator: part a, 1. -/
import Derived.Test.YtmiclkgkfkcnoaaGreatLD
namespace Go.Proofs.YtmiclkgkfkcnoaaGreat
open Go.RowKit
set_option linter.unusedSimpArgs false
set_option linter.unusedVariables false
set_option maxRecDepth 100000
set_option linter.defProp false
namespace GLa1
def gx := And.intro (@hopRow.eq_1) (And.intro (@polRow.eq_1) (@segRow.eq_1))
end GLa1
open GLa1
theorem inRange_i (a b c : Int) : ACall Tryz.prog 27 [.int .i64 a, .int .i64 b, .int .i64 c] (.bool (inR a b c)) [] := by
  refine acall_mk Tryz.func27 rfl Tryz.ntmps27 Tryz.results27 (by kernel_rfl) (by simp) ?_
  simp only [args, Nat.zero_add, Nat.reduceAdd]
  repeat' (first | with_reducible refine go ?_ | with_reducible refine t_region fun KT hT => ?_ | (refine gp fun KK hK => ?_; first | (refine ⟨by first | exact eq_hop, ?_⟩; (first | refine hK _ _ ?_ | refine hK _ (nz ?_)); clear hK KK) | ((repeat refine And.intro (by first | omega | (rw [getD_map_lt (by omega)]; rfl) | (simp; first | done | omega)) ?_); first | (refine hK _ _ ?_; clear hK KK) | (refine hK _ ?_; clear hK KK; try simp only [upd_mk]))) | ((with_reducible first | refine o_nil (hT _ _ ?_) | refine h_nil (hT _ ?_)); clear hT KT) | ((first | refine gd fun AA BB hA hB => ?_ | refine tc fun AA BB hA hB => ?_); first | (refine go ?_; (first | refine hA ?_ | refine hB ?_); clear hA hB AA BB) | (refine go2 ?_ ?_ <;> intro hb <;> (first | refine hA ?_ | refine hB ?_) <;> clear hA hB AA BB <;> (try simp only [hb, decide_true, decide_false]) <;> (try (exfalso; first | (simp at hb; done) | (simp at hb; omega))))) | (with_reducible refine skS ?_; simp only [upd_mk]) | with_reducible refine tdr fun KT hT => ?_ | with_reducible refine bY ?_)
  all_goals (refine fe ?_; try exact trivial)
  all_goals simp [hb, inR]

theorem l1In_s (a b c : Int) : ACall Tryz.prog 31 [.int .i64 a, .int .i64 b, .int .i64 c] (.bool (inR a b c)) [] := by
  refine acall_mk Tryz.func31 rfl Tryz.ntmps31 Tryz.results31 (by kernel_rfl) (by simp) ?_
  simp only [args, Nat.zero_add, Nat.reduceAdd]
  repeat' (first | with_reducible refine go ?_ | with_reducible refine t_region fun KT hT => ?_ | (refine gp fun KK hK => ?_; first | (refine ⟨by first | exact eq_hop, ?_⟩; (first | refine hK _ _ ?_ | refine hK _ (nz ?_)); clear hK KK) | ((repeat refine And.intro (by first | omega | (rw [getD_map_lt (by omega)]; rfl) | (simp; first | done | omega)) ?_); first | (refine hK _ _ ?_; clear hK KK) | (refine hK _ ?_; clear hK KK; try simp only [upd_mk]))) | ((with_reducible first | refine o_nil (hT _ _ ?_) | refine h_nil (hT _ ?_)); clear hT KT) | ((first | refine gd fun AA BB hA hB => ?_ | refine tc fun AA BB hA hB => ?_); first | (refine go ?_; (first | refine hA ?_ | refine hB ?_); clear hA hB AA BB) | (refine go2 ?_ ?_ <;> intro hb <;> (first | refine hA ?_ | refine hB ?_) <;> clear hA hB AA BB <;> (try simp only [hb, decide_true, decide_false]) <;> (try (exfalso; first | (simp at hb; done) | (simp at hb; omega))))) | (with_reducible refine skS ?_; simp only [upd_mk]) | with_reducible refine tdr fun KT hT => ?_ | with_reducible refine bY ?_)
  all_goals (refine fe ?_; try exact trivial)
  all_goals simp [hb, inR]

theorem firstAS_s (s : Sg) : ACall Tryz.prog 64 [.agg (segRow s)] (.int .i64 (firstAS s)) [] := by
  obtain ⟨ts, be, hops⟩ := s
  simp only [segRow]
  cases hops with
  | nil =>
    refine acall_mk Tryz.func64 rfl Tryz.ntmps64 Tryz.results64 (by kernel_rfl) (by simp) ?_
    simp only [args, Nat.zero_add, Nat.reduceAdd]
    repeat' (first | with_reducible refine go ?_ | with_reducible refine t_region fun KT hT => ?_ | (refine gp fun KK hK => ?_; first | (refine ⟨by first | exact eq_hop, ?_⟩; (first | refine hK _ _ ?_ | refine hK _ (nz ?_)); clear hK KK) | ((repeat refine And.intro (by first | omega | (rw [getD_map_lt (by omega)]; rfl) | (simp; first | done | omega)) ?_); first | (refine hK _ _ ?_; clear hK KK) | (refine hK _ ?_; clear hK KK; try simp only [upd_mk]))) | ((with_reducible first | refine o_nil (hT _ _ ?_) | refine h_nil (hT _ ?_)); clear hT KT) | ((first | refine gd fun AA BB hA hB => ?_ | refine tc fun AA BB hA hB => ?_); first | (refine go ?_; (first | refine hA ?_ | refine hB ?_); clear hA hB AA BB) | (refine go2 ?_ ?_ <;> intro hb <;> (first | refine hA ?_ | refine hB ?_) <;> clear hA hB AA BB <;> (try simp only [hb, decide_true, decide_false]) <;> (try (exfalso; first | (simp at hb; done) | (simp at hb; omega))))) | (with_reducible refine skS ?_; simp only [upd_mk]) | with_reducible refine tdr fun KT hT => ?_ | with_reducible refine bY ?_)
    all_goals (refine fe ?_; try exact trivial)
    all_goals simp_all [firstAS]
  | cons h hs =>
    refine acall_mk Tryz.func64 rfl Tryz.ntmps64 Tryz.results64 (by kernel_rfl) (by simp) ?_
    simp only [args, Nat.zero_add, Nat.reduceAdd]
    repeat' (first | with_reducible refine go ?_ | with_reducible refine t_region fun KT hT => ?_ | (refine gp fun KK hK => ?_; first | (refine ⟨by first | exact eq_hop, ?_⟩; (first | refine hK _ _ ?_ | refine hK _ (nz ?_)); clear hK KK) | ((repeat refine And.intro (by first | omega | (rw [getD_map_lt (by omega)]; rfl) | (simp; first | done | omega)) ?_); first | (refine hK _ _ ?_; clear hK KK) | (refine hK _ ?_; clear hK KK; try simp only [upd_mk]))) | ((with_reducible first | refine o_nil (hT _ _ ?_) | refine h_nil (hT _ ?_)); clear hT KT) | ((first | refine gd fun AA BB hA hB => ?_ | refine tc fun AA BB hA hB => ?_); first | (refine go ?_; (first | refine hA ?_ | refine hB ?_); clear hA hB AA BB) | (refine go2 ?_ ?_ <;> intro hb <;> (first | refine hA ?_ | refine hB ?_) <;> clear hA hB AA BB <;> (try simp only [hb, decide_true, decide_false]) <;> (try (exfalso; first | (simp at hb; done) | (simp at hb; omega))))) | (with_reducible refine skS ?_; simp only [upd_mk]) | with_reducible refine tdr fun KT hT => ?_ | with_reducible refine bY ?_)
    all_goals (refine fe ?_; try exact trivial)
    all_goals simp_all [firstAS]

theorem lastAS_i (s : Sg) (hl : s.hops.length ≤ 1048576) : ACall Tryz.prog 18 [.agg (segRow s)] (.int .i64 (lastAS s)) [] := by
  by_cases h : 0 < s.hops.length
  · have h1 : s.hops.length - 1 < s.hops.length := by omega
    have e1 := wrapP h (by omega)
    have e2 := getD_map_lt (f := hopRow) h1
    have e3 : ((s.hops.length : Int) == 0) = false := beq_eq_false_iff_ne.2 (by omega)
    have e4 : decide ((s.hops.length : Int) > 0) = true := decide_eq_true (by omega)
    have e5 : decide (0 < (s.hops.length : Int)) = true := decide_eq_true (by omega)
    refine acall_mk Tryz.func18 rfl Tryz.ntmps18 Tryz.results18 (by kernel_rfl) (by simp) ?_
    simp only [args, Nat.zero_add, Nat.reduceAdd]
    (have fx := And.intro (@e1) (And.intro (@e2) (And.intro (@e3) (And.intro (@e4) (And.intro (@e5) (@h1)))))
     repeat' (first | with_reducible refine go ?_ | with_reducible refine t_region fun KT hT => ?_ | (refine gp fun KK hK => ?_; first | (refine ⟨by first | exact eq_hop, ?_⟩; (first | refine hK _ _ ?_ | refine hK _ (nz ?_)); clear hK KK) | ((repeat refine And.intro (by first | omega | (rw [getD_map_lt (by omega)]; rfl) | (simp; first | done | omega)) ?_); first | (refine hK _ _ ?_; clear hK KK) | (refine hK _ ?_; clear hK KK; try simp only [upd_mk]))) | ((with_reducible first | refine o_nil (hT _ _ ?_) | refine h_nil (hT _ ?_)); clear hT KT) | ((first | refine gd fun AA BB hA hB => ?_ | refine tc fun AA BB hA hB => ?_); first | (refine go ?_; (first | refine hA ?_ | refine hB ?_); clear hA hB AA BB) | (refine go2 ?_ ?_ <;> intro hb <;> (first | refine hA ?_ | refine hB ?_) <;> clear hA hB AA BB <;> (try simp only [hb, decide_true, decide_false]) <;> (try (exfalso; first | (simp at hb; done) | (simp at hb; omega))))) | (with_reducible refine skS ?_; simp only [upd_mk]) | with_reducible refine tdr fun KT hT => ?_ | with_reducible refine bY ?_)
     all_goals clear fx)
    all_goals (refine fe ?_; try exact trivial)
    all_goals simp_all [lastAS]
  · have e3 : ((s.hops.length : Int) == 0) = true := beq_iff_eq.2 (by omega)
    have e4 : decide ((s.hops.length : Int) > 0) = false := decide_eq_false (by omega)
    have e5 : decide (0 < (s.hops.length : Int)) = false := decide_eq_false (by omega)
    refine acall_mk Tryz.func18 rfl Tryz.ntmps18 Tryz.results18 (by kernel_rfl) (by simp) ?_
    simp only [args, Nat.zero_add, Nat.reduceAdd]
    (have fx := And.intro (@e3) (And.intro (@e4) (@e5))
     repeat' (first | with_reducible refine go ?_ | with_reducible refine t_region fun KT hT => ?_ | (refine gp fun KK hK => ?_; first | (refine ⟨by first | exact eq_hop, ?_⟩; (first | refine hK _ _ ?_ | refine hK _ (nz ?_)); clear hK KK) | ((repeat refine And.intro (by first | omega | (rw [getD_map_lt (by omega)]; rfl) | (simp; first | done | omega)) ?_); first | (refine hK _ _ ?_; clear hK KK) | (refine hK _ ?_; clear hK KK; try simp only [upd_mk]))) | ((with_reducible first | refine o_nil (hT _ _ ?_) | refine h_nil (hT _ ?_)); clear hT KT) | ((first | refine gd fun AA BB hA hB => ?_ | refine tc fun AA BB hA hB => ?_); first | (refine go ?_; (first | refine hA ?_ | refine hB ?_); clear hA hB AA BB) | (refine go2 ?_ ?_ <;> intro hb <;> (first | refine hA ?_ | refine hB ?_) <;> clear hA hB AA BB <;> (try simp only [hb, decide_true, decide_false]) <;> (try (exfalso; first | (simp at hb; done) | (simp at hb; omega))))) | (with_reducible refine skS ?_; simp only [upd_mk]) | with_reducible refine tdr fun KT hT => ?_ | with_reducible refine bY ?_)
     all_goals clear fx)
    all_goals (refine fe ?_; try exact trivial)
    all_goals simp_all [lastAS]

theorem isTerm_i (s : Sg) (hl : s.hops.length ≤ 1048576) : ACall Tryz.prog 39 [.agg (segRow s)] (.bool (isTerm s)) [] := by
  by_cases h : 0 < s.hops.length
  · have h1 : s.hops.length - 1 < s.hops.length := by omega
    have e1 := wrapP h (by omega)
    have e2 := getD_map_lt (f := hopRow) h1
    have e3 : ((s.hops.length : Int) == 0) = false := beq_eq_false_iff_ne.2 (by omega)
    have e4 : decide ((s.hops.length : Int) > 0) = true := decide_eq_true (by omega)
    have e5 : decide (0 < (s.hops.length : Int)) = true := decide_eq_true (by omega)
    refine acall_mk Tryz.func39 rfl Tryz.ntmps39 Tryz.results39 (by kernel_rfl) (by simp) ?_
    simp only [args, Nat.zero_add, Nat.reduceAdd]
    (have fx := And.intro (@e1) (And.intro (@e2) (And.intro (@e3) (And.intro (@e4) (And.intro (@e5) (@h1)))))
     repeat' (first | with_reducible refine go ?_ | with_reducible refine t_region fun KT hT => ?_ | (refine gp fun KK hK => ?_; first | (refine ⟨by first | exact eq_hop, ?_⟩; (first | refine hK _ _ ?_ | refine hK _ (nz ?_)); clear hK KK) | ((repeat refine And.intro (by first | omega | (rw [getD_map_lt (by omega)]; rfl) | (simp; first | done | omega)) ?_); first | (refine hK _ _ ?_; clear hK KK) | (refine hK _ ?_; clear hK KK; try simp only [upd_mk]))) | ((with_reducible first | refine o_nil (hT _ _ ?_) | refine h_nil (hT _ ?_)); clear hT KT) | ((first | refine gd fun AA BB hA hB => ?_ | refine tc fun AA BB hA hB => ?_); first | (refine go ?_; (first | refine hA ?_ | refine hB ?_); clear hA hB AA BB) | (refine go2 ?_ ?_ <;> intro hb <;> (first | refine hA ?_ | refine hB ?_) <;> clear hA hB AA BB <;> (try simp only [hb, decide_true, decide_false]) <;> (try (exfalso; first | (simp at hb; done) | (simp at hb; omega))))) | (with_reducible refine skS ?_; simp only [upd_mk]) | with_reducible refine tdr fun KT hT => ?_ | with_reducible refine bY ?_)
     all_goals clear fx)
    all_goals (refine fe ?_; try exact trivial)
    all_goals simp_all [isTerm]
  · have e3 : ((s.hops.length : Int) == 0) = true := beq_iff_eq.2 (by omega)
    have e4 : decide ((s.hops.length : Int) > 0) = false := decide_eq_false (by omega)
    have e5 : decide (0 < (s.hops.length : Int)) = false := decide_eq_false (by omega)
    refine acall_mk Tryz.func39 rfl Tryz.ntmps39 Tryz.results39 (by kernel_rfl) (by simp) ?_
    simp only [args, Nat.zero_add, Nat.reduceAdd]
    (have fx := And.intro (@e3) (And.intro (@e4) (@e5))
     repeat' (first | with_reducible refine go ?_ | with_reducible refine t_region fun KT hT => ?_ | (refine gp fun KK hK => ?_; first | (refine ⟨by first | exact eq_hop, ?_⟩; (first | refine hK _ _ ?_ | refine hK _ (nz ?_)); clear hK KK) | ((repeat refine And.intro (by first | omega | (rw [getD_map_lt (by omega)]; rfl) | (simp; first | done | omega)) ?_); first | (refine hK _ _ ?_; clear hK KK) | (refine hK _ ?_; clear hK KK; try simp only [upd_mk]))) | ((with_reducible first | refine o_nil (hT _ _ ?_) | refine h_nil (hT _ ?_)); clear hT KT) | ((first | refine gd fun AA BB hA hB => ?_ | refine tc fun AA BB hA hB => ?_); first | (refine go ?_; (first | refine hA ?_ | refine hB ?_); clear hA hB AA BB) | (refine go2 ?_ ?_ <;> intro hb <;> (first | refine hA ?_ | refine hB ?_) <;> clear hA hB AA BB <;> (try simp only [hb, decide_true, decide_false]) <;> (try (exfalso; first | (simp at hb; done) | (simp at hb; omega))))) | (with_reducible refine skS ?_; simp only [upd_mk]) | with_reducible refine tdr fun KT hT => ?_ | with_reducible refine bY ?_)
     all_goals clear fx)
    all_goals (refine fe ?_; try exact trivial)
    all_goals simp_all [isTerm]

theorem isTerm_s (s : Sg) (hl : s.hops.length ≤ 1048576) : ACall Tryz.prog 45 [.agg (segRow s)] (.bool (isTerm s)) [] := by
  by_cases h : 0 < s.hops.length
  · have h1 : s.hops.length - 1 < s.hops.length := by omega
    have e1 := wrapP h (by omega)
    have e2 := getD_map_lt (f := hopRow) h1
    have e3 : ((s.hops.length : Int) == 0) = false := beq_eq_false_iff_ne.2 (by omega)
    have e4 : decide ((s.hops.length : Int) > 0) = true := decide_eq_true (by omega)
    have e5 : decide (0 < (s.hops.length : Int)) = true := decide_eq_true (by omega)
    refine acall_mk Tryz.func45 rfl Tryz.ntmps45 Tryz.results45 (by kernel_rfl) (by simp) ?_
    simp only [args, Nat.zero_add, Nat.reduceAdd]
    (have fx := And.intro (@e1) (And.intro (@e2) (And.intro (@e3) (And.intro (@e4) (And.intro (@e5) (@h1)))))
     repeat' (first | with_reducible refine go ?_ | with_reducible refine t_region fun KT hT => ?_ | (refine gp fun KK hK => ?_; first | (refine ⟨by first | exact eq_hop, ?_⟩; (first | refine hK _ _ ?_ | refine hK _ (nz ?_)); clear hK KK) | ((repeat refine And.intro (by first | omega | (rw [getD_map_lt (by omega)]; rfl) | (simp; first | done | omega)) ?_); first | (refine hK _ _ ?_; clear hK KK) | (refine hK _ ?_; clear hK KK; try simp only [upd_mk]))) | ((with_reducible first | refine o_nil (hT _ _ ?_) | refine h_nil (hT _ ?_)); clear hT KT) | ((first | refine gd fun AA BB hA hB => ?_ | refine tc fun AA BB hA hB => ?_); first | (refine go ?_; (first | refine hA ?_ | refine hB ?_); clear hA hB AA BB) | (refine go2 ?_ ?_ <;> intro hb <;> (first | refine hA ?_ | refine hB ?_) <;> clear hA hB AA BB <;> (try simp only [hb, decide_true, decide_false]) <;> (try (exfalso; first | (simp at hb; done) | (simp at hb; omega))))) | (with_reducible refine skS ?_; simp only [upd_mk]) | with_reducible refine tdr fun KT hT => ?_ | with_reducible refine bY ?_)
     all_goals clear fx)
    all_goals (refine fe ?_; try exact trivial)
    all_goals simp_all [isTerm]
  · have e3 : ((s.hops.length : Int) == 0) = true := beq_iff_eq.2 (by omega)
    have e4 : decide ((s.hops.length : Int) > 0) = false := decide_eq_false (by omega)
    have e5 : decide (0 < (s.hops.length : Int)) = false := decide_eq_false (by omega)
    refine acall_mk Tryz.func45 rfl Tryz.ntmps45 Tryz.results45 (by kernel_rfl) (by simp) ?_
    simp only [args, Nat.zero_add, Nat.reduceAdd]
    (have fx := And.intro (@e3) (And.intro (@e4) (@e5))
     repeat' (first | with_reducible refine go ?_ | with_reducible refine t_region fun KT hT => ?_ | (refine gp fun KK hK => ?_; first | (refine ⟨by first | exact eq_hop, ?_⟩; (first | refine hK _ _ ?_ | refine hK _ (nz ?_)); clear hK KK) | ((repeat refine And.intro (by first | omega | (rw [getD_map_lt (by omega)]; rfl) | (simp; first | done | omega)) ?_); first | (refine hK _ _ ?_; clear hK KK) | (refine hK _ ?_; clear hK KK; try simp only [upd_mk]))) | ((with_reducible first | refine o_nil (hT _ _ ?_) | refine h_nil (hT _ ?_)); clear hT KT) | ((first | refine gd fun AA BB hA hB => ?_ | refine tc fun AA BB hA hB => ?_); first | (refine go ?_; (first | refine hA ?_ | refine hB ?_); clear hA hB AA BB) | (refine go2 ?_ ?_ <;> intro hb <;> (first | refine hA ?_ | refine hB ?_) <;> clear hA hB AA BB <;> (try simp only [hb, decide_true, decide_false]) <;> (try (exfalso; first | (simp at hb; done) | (simp at hb; omega))))) | (with_reducible refine skS ?_; simp only [upd_mk]) | with_reducible refine tdr fun KT hT => ?_ | with_reducible refine bY ?_)
     all_goals clear fx)
    all_goals (refine fe ?_; try exact trivial)
    all_goals simp_all [isTerm]

end Go.Proofs.YtmiclkgkfkcnoaaGreat
