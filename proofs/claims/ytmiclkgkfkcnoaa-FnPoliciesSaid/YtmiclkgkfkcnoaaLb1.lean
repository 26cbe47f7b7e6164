/- The functions of this program, walked by the evaluator: part b, 1. -/
import Derived.Test.YtmiclkgkfkcnoaaLa1
import Derived.Test.YtmiclkgkfkcnoaaLD
namespace Go.Proofs.Ytmiclkgkfkcnoaa
open Go.RowKit
set_option linter.unusedSimpArgs false
set_option linter.unusedVariables false
set_option maxRecDepth 100000
set_option linter.defProp false
namespace GLb1
def gx := And.intro (@hopRow.eq_1) (And.intro (@polRow.eq_1) (@segRow.eq_1))
end GLb1
open GLb1
theorem isRes_s (a : Int) : ACall Try.prog 150 [.int .i64 a] (.bool (inR a 0 2147483646)) [] := by
  refine acall_mk Try.func150 rfl Try.ntmps150 Try.results150 (by kernel_rfl) (by simp) ?_
  simp only [args, Nat.zero_add, Nat.reduceAdd]
  repeat' (first | with_reducible refine go ?_ | with_reducible refine t_region fun KT hT => ?_ | (refine gp fun KK hK => ?_; first | (refine hK _ _ ?_; clear hK KK) | (refine hK _ ?_; clear hK KK; try simp only [upd_mk]) | ((with_reducible first | refine .inl ⟨_, _, ⟨l1In_s _ _ _, rfl, csq⟩, hK _ _ (nz ?_)⟩ | refine ⟨_, ⟨l1In_s _ _ _, rfl, rfl, csq⟩, hK _ (nz ?_)⟩); clear hK KK) | (refine ⟨by first | exact eq_hop, hK _ _ ?_⟩; clear hK KK) | (refine ⟨by first | exact eq_hop, hK _ (nz ?_)⟩; clear hK KK) | ((repeat refine And.intro (by first | omega | (rw [getD_map_lt (by omega)]; rfl) | (simp; first | done | omega)) ?_); first | (refine hK _ _ ?_; clear hK KK) | (refine hK _ ?_; clear hK KK; try simp only [upd_mk]))) | ((with_reducible first | refine o_nil (hT _ _ ?_) | refine h_nil (hT _ ?_)); clear hT KT) | ((first | refine gd fun AA BB hA hB => ?_ | refine tc fun AA BB hA hB => ?_); first | (refine go ?_; (first | refine hA ?_ | refine hB ?_); clear hA hB AA BB) | (refine go2 ?_ ?_ <;> intro hb <;> (first | refine hA ?_ | refine hB ?_) <;> clear hA hB AA BB <;> (try simp only [hb, decide_true, decide_false]) <;> (try (exfalso; first | (simp at hb; done) | (simp at hb; omega))))) | (with_reducible refine skS ?_; simp only [upd_mk]) | with_reducible refine tdr fun KT hT => ?_ | with_reducible refine bY ?_)
  all_goals (refine fe ?_; try exact trivial)

theorem validSet_i (a : Int) : ACall Try.prog 139 [.int .i64 a] (.bool (inR a 0 65535)) [] := by
  refine acall_mk Try.func139 rfl Try.ntmps139 Try.results139 (by kernel_rfl) (by simp) ?_
  simp only [args, Nat.zero_add, Nat.reduceAdd]
  repeat' (first | with_reducible refine go ?_ | with_reducible refine t_region fun KT hT => ?_ | (refine gp fun KK hK => ?_; first | (refine hK _ _ ?_; clear hK KK) | (refine hK _ ?_; clear hK KK; try simp only [upd_mk]) | ((with_reducible first | refine .inl ⟨_, _, ⟨inRange_i _ _ _, rfl, csq⟩, hK _ _ (nz ?_)⟩ | refine ⟨_, ⟨inRange_i _ _ _, rfl, rfl, csq⟩, hK _ (nz ?_)⟩); clear hK KK) | (refine ⟨by first | exact eq_hop, hK _ _ ?_⟩; clear hK KK) | (refine ⟨by first | exact eq_hop, hK _ (nz ?_)⟩; clear hK KK) | ((repeat refine And.intro (by first | omega | (rw [getD_map_lt (by omega)]; rfl) | (simp; first | done | omega)) ?_); first | (refine hK _ _ ?_; clear hK KK) | (refine hK _ ?_; clear hK KK; try simp only [upd_mk]))) | ((with_reducible first | refine o_nil (hT _ _ ?_) | refine h_nil (hT _ ?_)); clear hT KT) | ((first | refine gd fun AA BB hA hB => ?_ | refine tc fun AA BB hA hB => ?_); first | (refine go ?_; (first | refine hA ?_ | refine hB ?_); clear hA hB AA BB) | (refine go2 ?_ ?_ <;> intro hb <;> (first | refine hA ?_ | refine hB ?_) <;> clear hA hB AA BB <;> (try simp only [hb, decide_true, decide_false]) <;> (try (exfalso; first | (simp at hb; done) | (simp at hb; omega))))) | (with_reducible refine skS ?_; simp only [upd_mk]) | with_reducible refine tdr fun KT hT => ?_ | with_reducible refine bY ?_)
  all_goals (refine fe ?_; try exact trivial)

theorem validSet_s (a : Int) : ACall Try.prog 140 [.int .i64 a] (.bool (inR a 0 65535)) [] := by
  refine acall_mk Try.func140 rfl Try.ntmps140 Try.results140 (by kernel_rfl) (by simp) ?_
  simp only [args, Nat.zero_add, Nat.reduceAdd]
  repeat' (first | with_reducible refine go ?_ | with_reducible refine t_region fun KT hT => ?_ | (refine gp fun KK hK => ?_; first | (refine hK _ _ ?_; clear hK KK) | (refine hK _ ?_; clear hK KK; try simp only [upd_mk]) | ((with_reducible first | refine .inl ⟨_, _, ⟨l1In_s _ _ _, rfl, csq⟩, hK _ _ (nz ?_)⟩ | refine ⟨_, ⟨l1In_s _ _ _, rfl, rfl, csq⟩, hK _ (nz ?_)⟩); clear hK KK) | (refine ⟨by first | exact eq_hop, hK _ _ ?_⟩; clear hK KK) | (refine ⟨by first | exact eq_hop, hK _ (nz ?_)⟩; clear hK KK) | ((repeat refine And.intro (by first | omega | (rw [getD_map_lt (by omega)]; rfl) | (simp; first | done | omega)) ?_); first | (refine hK _ _ ?_; clear hK KK) | (refine hK _ ?_; clear hK KK; try simp only [upd_mk]))) | ((with_reducible first | refine o_nil (hT _ _ ?_) | refine h_nil (hT _ ?_)); clear hT KT) | ((first | refine gd fun AA BB hA hB => ?_ | refine tc fun AA BB hA hB => ?_); first | (refine go ?_; (first | refine hA ?_ | refine hB ?_); clear hA hB AA BB) | (refine go2 ?_ ?_ <;> intro hb <;> (first | refine hA ?_ | refine hB ?_) <;> clear hA hB AA BB <;> (try simp only [hb, decide_true, decide_false]) <;> (try (exfalso; first | (simp at hb; done) | (simp at hb; omega))))) | (with_reducible refine skS ?_; simp only [upd_mk]) | with_reducible refine tdr fun KT hT => ?_ | with_reducible refine bY ?_)
  all_goals (refine fe ?_; try exact trivial)

theorem union_i (a b : Int) : ACall Try.prog 126 [.int .i64 a, .int .i64 b] (.int .i64 (union a b)) [] := by
  refine acall_mk Try.func126 rfl Try.ntmps126 Try.results126 (by kernel_rfl) (by simp) ?_
  simp only [args, Nat.zero_add, Nat.reduceAdd]
  repeat' (first | with_reducible refine go ?_ | with_reducible refine t_region fun KT hT => ?_ | (refine gp fun KK hK => ?_; first | (refine hK _ _ ?_; clear hK KK) | (refine hK _ ?_; clear hK KK; try simp only [upd_mk]) | ((with_reducible first | refine .inl ⟨_, _, ⟨validSet_i _, rfl, csq⟩, hK _ _ (nz ?_)⟩ | refine ⟨_, ⟨validSet_i _, rfl, rfl, csq⟩, hK _ (nz ?_)⟩); clear hK KK) | (refine ⟨by first | exact eq_hop, hK _ _ ?_⟩; clear hK KK) | (refine ⟨by first | exact eq_hop, hK _ (nz ?_)⟩; clear hK KK) | ((repeat refine And.intro (by first | omega | (rw [getD_map_lt (by omega)]; rfl) | (simp; first | done | omega)) ?_); first | (refine hK _ _ ?_; clear hK KK) | (refine hK _ ?_; clear hK KK; try simp only [upd_mk]))) | ((with_reducible first | refine o_nil (hT _ _ ?_) | refine h_nil (hT _ ?_)); clear hT KT) | ((first | refine gd fun AA BB hA hB => ?_ | refine tc fun AA BB hA hB => ?_); first | (refine go ?_; (first | refine hA ?_ | refine hB ?_); clear hA hB AA BB) | (refine go2 ?_ ?_ <;> intro hb <;> (first | refine hA ?_ | refine hB ?_) <;> clear hA hB AA BB <;> (try simp only [hb, decide_true, decide_false]) <;> (try (exfalso; first | (simp at hb; done) | (simp at hb; omega))))) | (with_reducible refine skS ?_; simp only [upd_mk]) | with_reducible refine tdr fun KT hT => ?_ | with_reducible refine bY ?_)
  all_goals (refine fe ?_; try exact trivial)
  all_goals simp_all [union]

theorem union_s (a b : Int) : ACall Try.prog 127 [.int .i64 a, .int .i64 b] (.int .i64 (union a b)) [] := by
  refine acall_mk Try.func127 rfl Try.ntmps127 Try.results127 (by kernel_rfl) (by simp) ?_
  simp only [args, Nat.zero_add, Nat.reduceAdd]
  repeat' (first | with_reducible refine go ?_ | with_reducible refine t_region fun KT hT => ?_ | (refine gp fun KK hK => ?_; first | (refine hK _ _ ?_; clear hK KK) | (refine hK _ ?_; clear hK KK; try simp only [upd_mk]) | ((with_reducible first | refine .inl ⟨_, _, ⟨validSet_s _, rfl, csq⟩, hK _ _ (nz ?_)⟩ | refine ⟨_, ⟨validSet_s _, rfl, rfl, csq⟩, hK _ (nz ?_)⟩); clear hK KK) | (refine ⟨by first | exact eq_hop, hK _ _ ?_⟩; clear hK KK) | (refine ⟨by first | exact eq_hop, hK _ (nz ?_)⟩; clear hK KK) | ((repeat refine And.intro (by first | omega | (rw [getD_map_lt (by omega)]; rfl) | (simp; first | done | omega)) ?_); first | (refine hK _ _ ?_; clear hK KK) | (refine hK _ ?_; clear hK KK; try simp only [upd_mk]))) | ((with_reducible first | refine o_nil (hT _ _ ?_) | refine h_nil (hT _ ?_)); clear hT KT) | ((first | refine gd fun AA BB hA hB => ?_ | refine tc fun AA BB hA hB => ?_); first | (refine go ?_; (first | refine hA ?_ | refine hB ?_); clear hA hB AA BB) | (refine go2 ?_ ?_ <;> intro hb <;> (first | refine hA ?_ | refine hB ?_) <;> clear hA hB AA BB <;> (try simp only [hb, decide_true, decide_false]) <;> (try (exfalso; first | (simp at hb; done) | (simp at hb; omega))))) | (with_reducible refine skS ?_; simp only [upd_mk]) | with_reducible refine tdr fun KT hT => ?_ | with_reducible refine bY ?_)
  all_goals (refine fe ?_; try exact trivial)
  all_goals simp_all [union]

theorem min_i (a b : Int) : ACall Try.prog 130 [.int .i64 a, .int .i64 b] (.int .i64 (min a b)) [] := by
  refine acall_mk Try.func130 rfl Try.ntmps130 Try.results130 (by kernel_rfl) (by simp) ?_
  simp only [args, Nat.zero_add, Nat.reduceAdd]
  repeat' (first | with_reducible refine go ?_ | with_reducible refine t_region fun KT hT => ?_ | (refine gp fun KK hK => ?_; first | (refine hK _ _ ?_; clear hK KK) | (refine hK _ ?_; clear hK KK; try simp only [upd_mk]) | (refine ⟨by first | exact eq_hop, hK _ _ ?_⟩; clear hK KK) | (refine ⟨by first | exact eq_hop, hK _ (nz ?_)⟩; clear hK KK) | ((repeat refine And.intro (by first | omega | (rw [getD_map_lt (by omega)]; rfl) | (simp; first | done | omega)) ?_); first | (refine hK _ _ ?_; clear hK KK) | (refine hK _ ?_; clear hK KK; try simp only [upd_mk]))) | ((with_reducible first | refine o_nil (hT _ _ ?_) | refine h_nil (hT _ ?_)); clear hT KT) | ((first | refine gd fun AA BB hA hB => ?_ | refine tc fun AA BB hA hB => ?_); first | (refine go ?_; (first | refine hA ?_ | refine hB ?_); clear hA hB AA BB) | (refine go2 ?_ ?_ <;> intro hb <;> (first | refine hA ?_ | refine hB ?_) <;> clear hA hB AA BB <;> (try simp only [hb, decide_true, decide_false]) <;> (try (exfalso; first | (simp at hb; done) | (simp at hb; omega))))) | (with_reducible refine skS ?_; simp only [upd_mk]) | with_reducible refine tdr fun KT hT => ?_ | with_reducible refine bY ?_)
  all_goals (refine fe ?_; try exact trivial)
  all_goals (congr 1; split <;> omega)

theorem min_s (a b : Int) : ACall Try.prog 131 [.int .i64 a, .int .i64 b] (.int .i64 (min a b)) [] := by
  refine acall_mk Try.func131 rfl Try.ntmps131 Try.results131 (by kernel_rfl) (by simp) ?_
  simp only [args, Nat.zero_add, Nat.reduceAdd]
  repeat' (first | with_reducible refine go ?_ | with_reducible refine t_region fun KT hT => ?_ | (refine gp fun KK hK => ?_; first | (refine hK _ _ ?_; clear hK KK) | (refine hK _ ?_; clear hK KK; try simp only [upd_mk]) | (refine ⟨by first | exact eq_hop, hK _ _ ?_⟩; clear hK KK) | (refine ⟨by first | exact eq_hop, hK _ (nz ?_)⟩; clear hK KK) | ((repeat refine And.intro (by first | omega | (rw [getD_map_lt (by omega)]; rfl) | (simp; first | done | omega)) ?_); first | (refine hK _ _ ?_; clear hK KK) | (refine hK _ ?_; clear hK KK; try simp only [upd_mk]))) | ((with_reducible first | refine o_nil (hT _ _ ?_) | refine h_nil (hT _ ?_)); clear hT KT) | ((first | refine gd fun AA BB hA hB => ?_ | refine tc fun AA BB hA hB => ?_); first | (refine go ?_; (first | refine hA ?_ | refine hB ?_); clear hA hB AA BB) | (refine go2 ?_ ?_ <;> intro hb <;> (first | refine hA ?_ | refine hB ?_) <;> clear hA hB AA BB <;> (try simp only [hb, decide_true, decide_false]) <;> (try (exfalso; first | (simp at hb; done) | (simp at hb; omega))))) | (with_reducible refine skS ?_; simp only [upd_mk]) | with_reducible refine tdr fun KT hT => ?_ | with_reducible refine bY ?_)
  all_goals (refine fe ?_; try exact trivial)
  all_goals simp_all
  all_goals omega

theorem defPol_i : ACall Try.prog 47 [] (.agg (polRow defPol)) [] := by
  refine acall_mk Try.func47 rfl Try.ntmps47 Try.results47 (by kernel_rfl) (by simp) ?_
  simp only [args, Nat.zero_add, Nat.reduceAdd]
  repeat' (first | with_reducible refine go ?_ | with_reducible refine t_region fun KT hT => ?_ | (refine gp fun KK hK => ?_; first | (refine hK _ _ ?_; clear hK KK) | (refine hK _ ?_; clear hK KK; try simp only [upd_mk]) | (refine ⟨by first | exact eq_hop, hK _ _ ?_⟩; clear hK KK) | (refine ⟨by first | exact eq_hop, hK _ (nz ?_)⟩; clear hK KK) | ((repeat refine And.intro (by first | omega | (rw [getD_map_lt (by omega)]; rfl) | (simp; first | done | omega)) ?_); first | (refine hK _ _ ?_; clear hK KK) | (refine hK _ ?_; clear hK KK; try simp only [upd_mk]))) | ((with_reducible first | refine o_nil (hT _ _ ?_) | refine h_nil (hT _ ?_)); clear hT KT) | ((first | refine gd fun AA BB hA hB => ?_ | refine tc fun AA BB hA hB => ?_); first | (refine go ?_; (first | refine hA ?_ | refine hB ?_); clear hA hB AA BB) | (refine go2 ?_ ?_ <;> intro hb <;> (first | refine hA ?_ | refine hB ?_) <;> clear hA hB AA BB <;> (try simp only [hb, decide_true, decide_false]) <;> (try (exfalso; first | (simp at hb; done) | (simp at hb; omega))))) | (with_reducible refine skS ?_; simp only [upd_mk]) | with_reducible refine tdr fun KT hT => ?_ | with_reducible refine bY ?_)
  all_goals (refine fe ?_; try exact trivial)
  all_goals rfl

theorem defPol_s : ACall Try.prog 48 [] (.agg (polRow defPol)) [] := by
  refine acall_mk Try.func48 rfl Try.ntmps48 Try.results48 (by kernel_rfl) (by simp) ?_
  simp only [args, Nat.zero_add, Nat.reduceAdd]
  repeat' (first | with_reducible refine go ?_ | with_reducible refine t_region fun KT hT => ?_ | (refine gp fun KK hK => ?_; first | (refine hK _ _ ?_; clear hK KK) | (refine hK _ ?_; clear hK KK; try simp only [upd_mk]) | (refine ⟨by first | exact eq_hop, hK _ _ ?_⟩; clear hK KK) | (refine ⟨by first | exact eq_hop, hK _ (nz ?_)⟩; clear hK KK) | ((repeat refine And.intro (by first | omega | (rw [getD_map_lt (by omega)]; rfl) | (simp; first | done | omega)) ?_); first | (refine hK _ _ ?_; clear hK KK) | (refine hK _ ?_; clear hK KK; try simp only [upd_mk]))) | ((with_reducible first | refine o_nil (hT _ _ ?_) | refine h_nil (hT _ ?_)); clear hT KT) | ((first | refine gd fun AA BB hA hB => ?_ | refine tc fun AA BB hA hB => ?_); first | (refine go ?_; (first | refine hA ?_ | refine hB ?_); clear hA hB AA BB) | (refine go2 ?_ ?_ <;> intro hb <;> (first | refine hA ?_ | refine hB ?_) <;> clear hA hB AA BB <;> (try simp only [hb, decide_true, decide_false]) <;> (try (exfalso; first | (simp at hb; done) | (simp at hb; omega))))) | (with_reducible refine skS ?_; simp only [upd_mk]) | with_reducible refine tdr fun KT hT => ?_ | with_reducible refine bY ?_)
  all_goals (refine fe ?_; try exact trivial)
  all_goals rfl

theorem validPol_i (p : Pl) : ACall Try.prog 45 [.agg (polRow p)] (.bool (validPol p)) [] := by
  simp only [polRow]
  refine acall_mk Try.func45 rfl Try.ntmps45 Try.results45 (by kernel_rfl) (by simp) ?_
  simp only [args, Nat.zero_add, Nat.reduceAdd]
  repeat' (first | with_reducible refine go ?_ | with_reducible refine t_region fun KT hT => ?_ | (refine gp fun KK hK => ?_; first | (refine hK _ _ ?_; clear hK KK) | (refine hK _ ?_; clear hK KK; try simp only [upd_mk]) | ((with_reducible first | refine .inl ⟨_, _, ⟨inRange_i _ _ _, rfl, csq⟩, hK _ _ (nz ?_)⟩ | refine .inl ⟨_, _, ⟨validSet_i _, rfl, csq⟩, hK _ _ (nz ?_)⟩ | refine ⟨_, ⟨inRange_i _ _ _, rfl, rfl, csq⟩, hK _ (nz ?_)⟩ | refine ⟨_, ⟨validSet_i _, rfl, rfl, csq⟩, hK _ (nz ?_)⟩); clear hK KK) | (refine ⟨by first | exact eq_hop, hK _ _ ?_⟩; clear hK KK) | (refine ⟨by first | exact eq_hop, hK _ (nz ?_)⟩; clear hK KK) | ((repeat refine And.intro (by first | omega | (rw [getD_map_lt (by omega)]; rfl) | (simp; first | done | omega)) ?_); first | (refine hK _ _ ?_; clear hK KK) | (refine hK _ ?_; clear hK KK; try simp only [upd_mk]))) | ((with_reducible first | refine o_nil (hT _ _ ?_) | refine h_nil (hT _ ?_)); clear hT KT) | ((first | refine gd fun AA BB hA hB => ?_ | refine tc fun AA BB hA hB => ?_); first | (refine go ?_; (first | refine hA ?_ | refine hB ?_); clear hA hB AA BB) | (refine go2 ?_ ?_ <;> intro hb <;> (first | refine hA ?_ | refine hB ?_) <;> clear hA hB AA BB <;> (try simp only [hb, decide_true, decide_false]) <;> (try (exfalso; first | (simp at hb; done) | (simp at hb; omega))))) | (with_reducible refine skS ?_; simp only [upd_mk]) | with_reducible refine tdr fun KT hT => ?_ | with_reducible refine bY ?_)
  all_goals (refine fe ?_; try exact trivial)
  all_goals simp_all [validPol]

theorem validPol_s (p : Pl) : ACall Try.prog 46 [.agg (polRow p)] (.bool (validPol p)) [] := by
  simp only [polRow]
  refine acall_mk Try.func46 rfl Try.ntmps46 Try.results46 (by kernel_rfl) (by simp) ?_
  simp only [args, Nat.zero_add, Nat.reduceAdd]
  repeat' (first | with_reducible refine go ?_ | with_reducible refine t_region fun KT hT => ?_ | (refine gp fun KK hK => ?_; first | (refine hK _ _ ?_; clear hK KK) | (refine hK _ ?_; clear hK KK; try simp only [upd_mk]) | ((with_reducible first | refine .inl ⟨_, _, ⟨l1In_s _ _ _, rfl, csq⟩, hK _ _ (nz ?_)⟩ | refine .inl ⟨_, _, ⟨validSet_s _, rfl, csq⟩, hK _ _ (nz ?_)⟩ | refine ⟨_, ⟨l1In_s _ _ _, rfl, rfl, csq⟩, hK _ (nz ?_)⟩ | refine ⟨_, ⟨validSet_s _, rfl, rfl, csq⟩, hK _ (nz ?_)⟩); clear hK KK) | (refine ⟨by first | exact eq_hop, hK _ _ ?_⟩; clear hK KK) | (refine ⟨by first | exact eq_hop, hK _ (nz ?_)⟩; clear hK KK) | ((repeat refine And.intro (by first | omega | (rw [getD_map_lt (by omega)]; rfl) | (simp; first | done | omega)) ?_); first | (refine hK _ _ ?_; clear hK KK) | (refine hK _ ?_; clear hK KK; try simp only [upd_mk]))) | ((with_reducible first | refine o_nil (hT _ _ ?_) | refine h_nil (hT _ ?_)); clear hT KT) | ((first | refine gd fun AA BB hA hB => ?_ | refine tc fun AA BB hA hB => ?_); first | (refine go ?_; (first | refine hA ?_ | refine hB ?_); clear hA hB AA BB) | (refine go2 ?_ ?_ <;> intro hb <;> (first | refine hA ?_ | refine hB ?_) <;> clear hA hB AA BB <;> (try simp only [hb, decide_true, decide_false]) <;> (try (exfalso; first | (simp at hb; done) | (simp at hb; omega))))) | (with_reducible refine skS ?_; simp only [upd_mk]) | with_reducible refine tdr fun KT hT => ?_ | with_reducible refine bY ?_)
  all_goals (refine fe ?_; try exact trivial)
  all_goals simp_all [validPol]

theorem polFor_i (l : List Pl) (r : Int) (hl : l.length ≤ 1048576) : ACall Try.prog 41 [.sl (l.map polRow), .int .i64 r] (.agg (polRow (polFor l r))) [] := by
  have e0 : IntKind.i64.wrap ((l.length : Int) - 1) = (l.length : Int) - 1 := wr64 (by omega) (by omega)
  by_cases h : 0 ≤ r ∧ r.toNat < l.length
  · have e1 := getD_map_lt (f := polRow) h.2
    have e2 : inR r 0 ((l.length : Int) - 1) = true := by simp [inR]; omega
    refine acall_mk Try.func41 rfl Try.ntmps41 Try.results41 (by kernel_rfl) (by simp) ?_
    simp only [args, Nat.zero_add, Nat.reduceAdd]
    (have fx := And.intro (@e0) (And.intro (@e1) (And.intro (@e2) (@h)))
     repeat' (first | with_reducible refine go ?_ | with_reducible refine t_region fun KT hT => ?_ | (refine gp fun KK hK => ?_; first | (refine hK _ _ ?_; clear hK KK) | (refine hK _ ?_; clear hK KK; try simp only [upd_mk]) | ((with_reducible first | refine .inl ⟨_, _, ⟨inRange_i _ _ _, rfl, csq⟩, hK _ _ (nz ?_)⟩ | refine .inl ⟨_, _, ⟨validPol_i _, rfl, csq⟩, hK _ _ (nz ?_)⟩ | refine .inl ⟨_, _, ⟨defPol_i, rfl, csq⟩, hK _ _ (nz ?_)⟩ | refine ⟨_, ⟨inRange_i _ _ _, rfl, rfl, csq⟩, hK _ (nz ?_)⟩ | refine ⟨_, ⟨validPol_i _, rfl, rfl, csq⟩, hK _ (nz ?_)⟩ | refine ⟨_, ⟨defPol_i, rfl, rfl, csq⟩, hK _ (nz ?_)⟩); clear hK KK) | (refine ⟨by first | exact eq_hop, hK _ _ ?_⟩; clear hK KK) | (refine ⟨by first | exact eq_hop, hK _ (nz ?_)⟩; clear hK KK) | ((repeat refine And.intro (by first | omega | (rw [getD_map_lt (by omega)]; rfl) | (simp; first | done | omega)) ?_); first | (refine hK _ _ ?_; clear hK KK) | (refine hK _ ?_; clear hK KK; try simp only [upd_mk]))) | ((with_reducible first | refine o_nil (hT _ _ ?_) | refine h_nil (hT _ ?_)); clear hT KT) | ((first | refine gd fun AA BB hA hB => ?_ | refine tc fun AA BB hA hB => ?_); first | (refine go ?_; (first | refine hA ?_ | refine hB ?_); clear hA hB AA BB) | (refine go2 ?_ ?_ <;> intro hb <;> (first | refine hA ?_ | refine hB ?_) <;> clear hA hB AA BB <;> (try simp only [hb, decide_true, decide_false]) <;> (try (exfalso; first | (simp at hb; done) | (simp at hb; omega))))) | (with_reducible refine skS ?_; simp only [upd_mk]) | with_reducible refine tdr fun KT hT => ?_ | with_reducible refine bY ?_)
     all_goals clear fx)
    all_goals (refine fe ?_; try exact trivial)
    all_goals (simp only [polFor, dif_pos h]; simp_all)
  · have e2 : inR r 0 ((l.length : Int) - 1) = false := by simp [inR]; omega
    refine acall_mk Try.func41 rfl Try.ntmps41 Try.results41 (by kernel_rfl) (by simp) ?_
    simp only [args, Nat.zero_add, Nat.reduceAdd]
    (have fx := And.intro (@e0) (@e2)
     repeat' (first | with_reducible refine go ?_ | with_reducible refine t_region fun KT hT => ?_ | (refine gp fun KK hK => ?_; first | (refine hK _ _ ?_; clear hK KK) | (refine hK _ ?_; clear hK KK; try simp only [upd_mk]) | ((with_reducible first | refine .inl ⟨_, _, ⟨inRange_i _ _ _, rfl, csq⟩, hK _ _ (nz ?_)⟩ | refine .inl ⟨_, _, ⟨defPol_i, rfl, csq⟩, hK _ _ (nz ?_)⟩ | refine ⟨_, ⟨inRange_i _ _ _, rfl, rfl, csq⟩, hK _ (nz ?_)⟩ | refine ⟨_, ⟨defPol_i, rfl, rfl, csq⟩, hK _ (nz ?_)⟩); clear hK KK) | (refine ⟨by first | exact eq_hop, hK _ _ ?_⟩; clear hK KK) | (refine ⟨by first | exact eq_hop, hK _ (nz ?_)⟩; clear hK KK) | ((repeat refine And.intro (by first | omega | (rw [getD_map_lt (by omega)]; rfl) | (simp; first | done | omega)) ?_); first | (refine hK _ _ ?_; clear hK KK) | (refine hK _ ?_; clear hK KK; try simp only [upd_mk]))) | ((with_reducible first | refine o_nil (hT _ _ ?_) | refine h_nil (hT _ ?_)); clear hT KT) | ((first | refine gd fun AA BB hA hB => ?_ | refine tc fun AA BB hA hB => ?_); first | (refine go ?_; (first | refine hA ?_ | refine hB ?_); clear hA hB AA BB) | (refine go2 ?_ ?_ <;> intro hb <;> (first | refine hA ?_ | refine hB ?_) <;> clear hA hB AA BB <;> (try simp only [hb, decide_true, decide_false]) <;> (try (exfalso; first | (simp at hb; done) | (simp at hb; omega))))) | (with_reducible refine skS ?_; simp only [upd_mk]) | with_reducible refine tdr fun KT hT => ?_ | with_reducible refine bY ?_)
     all_goals clear fx)
    all_goals (refine fe ?_; try exact trivial)
    all_goals simp only [polFor, dif_neg h]

theorem polFor_s (l : List Pl) (r : Int) (hl : l.length ≤ 1048576) : ACall Try.prog 42 [.sl (l.map polRow), .int .i64 r] (.agg (polRow (polFor l r))) [] := by
  have e0 : IntKind.i64.wrap ((l.length : Int) - 1) = (l.length : Int) - 1 := wr64 (by omega) (by omega)
  by_cases h : 0 ≤ r ∧ r.toNat < l.length
  · have e1 := getD_map_lt (f := polRow) h.2
    have e2 : inR r 0 ((l.length : Int) - 1) = true := by simp [inR]; omega
    refine acall_mk Try.func42 rfl Try.ntmps42 Try.results42 (by kernel_rfl) (by simp) ?_
    simp only [args, Nat.zero_add, Nat.reduceAdd]
    (have fx := And.intro (@e0) (And.intro (@e1) (And.intro (@e2) (@h)))
     repeat' (first | with_reducible refine go ?_ | with_reducible refine t_region fun KT hT => ?_ | (refine gp fun KK hK => ?_; first | (refine hK _ _ ?_; clear hK KK) | (refine hK _ ?_; clear hK KK; try simp only [upd_mk]) | ((with_reducible first | refine .inl ⟨_, _, ⟨l1In_s _ _ _, rfl, csq⟩, hK _ _ (nz ?_)⟩ | refine .inl ⟨_, _, ⟨validPol_s _, rfl, csq⟩, hK _ _ (nz ?_)⟩ | refine .inl ⟨_, _, ⟨defPol_s, rfl, csq⟩, hK _ _ (nz ?_)⟩ | refine ⟨_, ⟨l1In_s _ _ _, rfl, rfl, csq⟩, hK _ (nz ?_)⟩ | refine ⟨_, ⟨validPol_s _, rfl, rfl, csq⟩, hK _ (nz ?_)⟩ | refine ⟨_, ⟨defPol_s, rfl, rfl, csq⟩, hK _ (nz ?_)⟩); clear hK KK) | (refine ⟨by first | exact eq_hop, hK _ _ ?_⟩; clear hK KK) | (refine ⟨by first | exact eq_hop, hK _ (nz ?_)⟩; clear hK KK) | ((repeat refine And.intro (by first | omega | (rw [getD_map_lt (by omega)]; rfl) | (simp; first | done | omega)) ?_); first | (refine hK _ _ ?_; clear hK KK) | (refine hK _ ?_; clear hK KK; try simp only [upd_mk]))) | ((with_reducible first | refine o_nil (hT _ _ ?_) | refine h_nil (hT _ ?_)); clear hT KT) | ((first | refine gd fun AA BB hA hB => ?_ | refine tc fun AA BB hA hB => ?_); first | (refine go ?_; (first | refine hA ?_ | refine hB ?_); clear hA hB AA BB) | (refine go2 ?_ ?_ <;> intro hb <;> (first | refine hA ?_ | refine hB ?_) <;> clear hA hB AA BB <;> (try simp only [hb, decide_true, decide_false]) <;> (try (exfalso; first | (simp at hb; done) | (simp at hb; omega))))) | (with_reducible refine skS ?_; simp only [upd_mk]) | with_reducible refine tdr fun KT hT => ?_ | with_reducible refine bY ?_)
     all_goals clear fx)
    all_goals (refine fe ?_; try exact trivial)
    all_goals (simp only [polFor, dif_pos h]; simp_all)
  · have e2 : inR r 0 ((l.length : Int) - 1) = false := by simp [inR]; omega
    refine acall_mk Try.func42 rfl Try.ntmps42 Try.results42 (by kernel_rfl) (by simp) ?_
    simp only [args, Nat.zero_add, Nat.reduceAdd]
    (have fx := And.intro (@e0) (@e2)
     repeat' (first | with_reducible refine go ?_ | with_reducible refine t_region fun KT hT => ?_ | (refine gp fun KK hK => ?_; first | (refine hK _ _ ?_; clear hK KK) | (refine hK _ ?_; clear hK KK; try simp only [upd_mk]) | ((with_reducible first | refine .inl ⟨_, _, ⟨l1In_s _ _ _, rfl, csq⟩, hK _ _ (nz ?_)⟩ | refine .inl ⟨_, _, ⟨defPol_s, rfl, csq⟩, hK _ _ (nz ?_)⟩ | refine ⟨_, ⟨l1In_s _ _ _, rfl, rfl, csq⟩, hK _ (nz ?_)⟩ | refine ⟨_, ⟨defPol_s, rfl, rfl, csq⟩, hK _ (nz ?_)⟩); clear hK KK) | (refine ⟨by first | exact eq_hop, hK _ _ ?_⟩; clear hK KK) | (refine ⟨by first | exact eq_hop, hK _ (nz ?_)⟩; clear hK KK) | ((repeat refine And.intro (by first | omega | (rw [getD_map_lt (by omega)]; rfl) | (simp; first | done | omega)) ?_); first | (refine hK _ _ ?_; clear hK KK) | (refine hK _ ?_; clear hK KK; try simp only [upd_mk]))) | ((with_reducible first | refine o_nil (hT _ _ ?_) | refine h_nil (hT _ ?_)); clear hT KT) | ((first | refine gd fun AA BB hA hB => ?_ | refine tc fun AA BB hA hB => ?_); first | (refine go ?_; (first | refine hA ?_ | refine hB ?_); clear hA hB AA BB) | (refine go2 ?_ ?_ <;> intro hb <;> (first | refine hA ?_ | refine hB ?_) <;> clear hA hB AA BB <;> (try simp only [hb, decide_true, decide_false]) <;> (try (exfalso; first | (simp at hb; done) | (simp at hb; omega))))) | (with_reducible refine skS ?_; simp only [upd_mk]) | with_reducible refine tdr fun KT hT => ?_ | with_reducible refine bY ?_)
     all_goals clear fx)
    all_goals (refine fe ?_; try exact trivial)
    all_goals simp only [polFor, dif_neg h]

end Go.Proofs.Ytmiclkgkfkcnoaa
