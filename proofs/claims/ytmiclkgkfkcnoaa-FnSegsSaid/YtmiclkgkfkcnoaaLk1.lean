/- The functions of this program, walked by the evaluator: part k, 1. -/
import Derived.Test.YtmiclkgkfkcnoaaLf1
import Derived.Test.YtmiclkgkfkcnoaaLh1
import Derived.Test.YtmiclkgkfkcnoaaLD
namespace Go.Proofs.Ytmiclkgkfkcnoaa
open Go.RowKit
set_option linter.unusedSimpArgs false
set_option linter.unusedVariables false
set_option maxRecDepth 100000
set_option linter.defProp false
namespace GLk1
def gx := And.intro (@hopRow.eq_1) (And.intro (@polRow.eq_1) (And.intro (@segRow.eq_1) (And.intro (@intRow.eq_1) (And.intro (@rowLen_ints) (And.intro (@rowLen_nil) (And.intro (@rowLen_cons) (And.intro (@rowLen_append) (And.intro (@lenL_app) (And.intro (@byteRow.eq_1) (And.intro (@rowLen_bytes) (And.intro (@bytesOf_map) (And.intro (@bytesOf_cons) (And.intro (@bytesOf_one) (And.intro (@rowLen_strs) (And.intro (@asRow.eq_1) (And.intro (@lkRow.eq_1) (And.intro (@tpRow.eq_1) (And.intro (@rowLen_hops) (And.intro (@rowLen_ases) (And.intro (@rowLen_links) (And.intro (@bcRow.eq_1) (@rowLen_bcs))))))))))))))))))))))
end GLk1
open GLk1
theorem fmtAS_i (t : Tp) (r : Int) (w : tpW t) (hr : i64R r) (h1 : t.ases.length ≤ 1048576) : ACall Try.prog 207 [.agg (tpRow t), .int .i64 r] (.str (fmtAS t r)) [] := by
  by_cases hh : realm t r = true
  · have hr' := realm_lt hh
    have e1 := getD_map_lt (f := asRow) hr'.2
    obtain ⟨w1, w2⟩ := (w.1 _ (List.getElem_mem hr'.2)).1
    obtain ⟨w3, w4⟩ := hr
    have a1 := fmtInt_20 w1 w2
    have a2 := fmtInt_20 w3 w4
    refine acall_mk Try.func207 rfl Try.ntmps207 Try.results207 (by kernel_rfl) (by simp) ?_
    simp only [args, Nat.zero_add, Nat.reduceAdd]
    (have fx := And.intro (@hh) (And.intro (@e1) (@hr'))
     repeat' (first | with_reducible refine go ?_ | with_reducible refine t_region fun KT hT => ?_ | (refine gp fun KK hK => ?_; first | (refine hK _ _ ?_; clear hK KK) | (refine hK _ ?_; clear hK KK; try simp only [upd_mk]) | ((with_reducible first | refine .inl ⟨_, _, ⟨realm_i t _ h1, rfl, csq⟩, hK _ _ (nz ?_)⟩ | refine .inl ⟨_, _, ⟨fmtInt_i _ w1 w2, rfl, csq⟩, hK _ _ (nz ?_)⟩ | refine .inl ⟨_, _, ⟨fmtInt_i r w3 w4, rfl, csq⟩, hK _ _ (nz ?_)⟩ | refine ⟨_, ⟨realm_i t _ h1, rfl, rfl, csq⟩, hK _ (nz ?_)⟩ | refine ⟨_, ⟨fmtInt_i _ w1 w2, rfl, rfl, csq⟩, hK _ (nz ?_)⟩ | refine ⟨_, ⟨fmtInt_i r w3 w4, rfl, rfl, csq⟩, hK _ (nz ?_)⟩); clear hK KK) | (refine ⟨by first | exact eq_hop, hK _ _ ?_⟩; clear hK KK) | (refine ⟨by first | exact eq_hop, hK _ (nz ?_)⟩; clear hK KK) | ((repeat refine And.intro (by first | omega | (rw [getD_map_lt (by omega)]; rfl) | (simp; first | done | omega)) ?_); first | (refine hK _ _ ?_; clear hK KK) | (refine hK _ ?_; clear hK KK; try simp only [upd_mk]))) | ((with_reducible first | refine o_nil (hT _ _ ?_) | refine h_nil (hT _ ?_)); clear hT KT) | ((first | refine gd fun AA BB hA hB => ?_ | refine tc fun AA BB hA hB => ?_); first | (refine go ?_; (first | refine hA ?_ | refine hB ?_); clear hA hB AA BB) | (refine go2 ?_ ?_ <;> intro hb <;> (first | refine hA ?_ | refine hB ?_) <;> clear hA hB AA BB <;> (try simp only [hb, decide_true, decide_false]) <;> (try (exfalso; first | (simp at hb; done) | (simp at hb; omega))))) | (with_reducible refine skS ?_; simp only [upd_mk]) | with_reducible refine tdr fun KT hT => ?_ | with_reducible refine bY ?_)
     all_goals clear fx)
    all_goals (refine fe ?_; try exact trivial)
    all_goals simp [fmtAS, hh]
  · have hh' : realm t r = false := by simpa using hh
    refine acall_mk Try.func207 rfl Try.ntmps207 Try.results207 (by kernel_rfl) (by simp) ?_
    simp only [args, Nat.zero_add, Nat.reduceAdd]
    (have fx := (@hh')
     repeat' (first | with_reducible refine go ?_ | with_reducible refine t_region fun KT hT => ?_ | (refine gp fun KK hK => ?_; first | (refine hK _ _ ?_; clear hK KK) | (refine hK _ ?_; clear hK KK; try simp only [upd_mk]) | ((with_reducible first | refine .inl ⟨_, _, ⟨realm_i t _ h1, rfl, csq⟩, hK _ _ (nz ?_)⟩ | refine ⟨_, ⟨realm_i t _ h1, rfl, rfl, csq⟩, hK _ (nz ?_)⟩); clear hK KK) | (refine ⟨by first | exact eq_hop, hK _ _ ?_⟩; clear hK KK) | (refine ⟨by first | exact eq_hop, hK _ (nz ?_)⟩; clear hK KK) | ((repeat refine And.intro (by first | omega | (rw [getD_map_lt (by omega)]; rfl) | (simp; first | done | omega)) ?_); first | (refine hK _ _ ?_; clear hK KK) | (refine hK _ ?_; clear hK KK; try simp only [upd_mk]))) | ((with_reducible first | refine o_nil (hT _ _ ?_) | refine h_nil (hT _ ?_)); clear hT KT) | ((first | refine gd fun AA BB hA hB => ?_ | refine tc fun AA BB hA hB => ?_); first | (refine go ?_; (first | refine hA ?_ | refine hB ?_); clear hA hB AA BB) | (refine go2 ?_ ?_ <;> intro hb <;> (first | refine hA ?_ | refine hB ?_) <;> clear hA hB AA BB <;> (try simp only [hb, decide_true, decide_false]) <;> (try (exfalso; first | (simp at hb; done) | (simp at hb; omega))))) | (with_reducible refine skS ?_; simp only [upd_mk]) | with_reducible refine tdr fun KT hT => ?_ | with_reducible refine bY ?_)
     all_goals clear fx)
    all_goals (refine fe ?_; try exact trivial)
    all_goals simp [fmtAS, hh']

theorem fmtHop_i (t : Tp) (h : Hp) (w : tpW t) (hw : hopW h) (h1 : t.ases.length ≤ 1048576) : ACall Try.prog 175 [.agg (tpRow t), .agg (hopRow h)] (.str (fmtHop t h)) [] := by
  obtain ⟨w1, ⟨w2, w2'⟩, ⟨w3, w3'⟩, _, _⟩ := hw
  have a0 := fmtAS_len w w1
  have a1 := fmtInt_20 w2 w2'
  have a2 := fmtInt_20 w3 w3'
  refine acall_mk Try.func175 rfl Try.ntmps175 Try.results175 (by kernel_rfl) (by simp) ?_
  simp only [args, Nat.zero_add, Nat.reduceAdd]
  repeat' (first | with_reducible refine go ?_ | with_reducible refine t_region fun KT hT => ?_ | (refine gp fun KK hK => ?_; first | (refine hK _ _ ?_; clear hK KK) | (refine hK _ ?_; clear hK KK; try simp only [upd_mk]) | ((with_reducible first | refine .inl ⟨_, _, ⟨fmtAS_i t _ w w1 h1, rfl, csq⟩, hK _ _ (nz ?_)⟩ | refine .inl ⟨_, _, ⟨fmtInt_i h.ing w2 w2', rfl, csq⟩, hK _ _ (nz ?_)⟩ | refine .inl ⟨_, _, ⟨fmtInt_i h.eg w3 w3', rfl, csq⟩, hK _ _ (nz ?_)⟩ | refine ⟨_, ⟨fmtAS_i t _ w w1 h1, rfl, rfl, csq⟩, hK _ (nz ?_)⟩ | refine ⟨_, ⟨fmtInt_i h.ing w2 w2', rfl, rfl, csq⟩, hK _ (nz ?_)⟩ | refine ⟨_, ⟨fmtInt_i h.eg w3 w3', rfl, rfl, csq⟩, hK _ (nz ?_)⟩); clear hK KK) | (refine ⟨by first | exact eq_hop, hK _ _ ?_⟩; clear hK KK) | (refine ⟨by first | exact eq_hop, hK _ (nz ?_)⟩; clear hK KK) | ((repeat refine And.intro (by first | omega | (rw [getD_map_lt (by omega)]; rfl) | (simp; first | done | omega)) ?_); first | (refine hK _ _ ?_; clear hK KK) | (refine hK _ ?_; clear hK KK; try simp only [upd_mk]))) | ((with_reducible first | refine o_nil (hT _ _ ?_) | refine h_nil (hT _ ?_)); clear hT KT) | ((first | refine gd fun AA BB hA hB => ?_ | refine tc fun AA BB hA hB => ?_); first | (refine go ?_; (first | refine hA ?_ | refine hB ?_); clear hA hB AA BB) | (refine go2 ?_ ?_ <;> intro hb <;> (first | refine hA ?_ | refine hB ?_) <;> clear hA hB AA BB <;> (try simp only [hb, decide_true, decide_false]) <;> (try (exfalso; first | (simp at hb; done) | (simp at hb; omega))))) | (with_reducible refine skS ?_; simp only [upd_mk]) | with_reducible refine tdr fun KT hT => ?_ | with_reducible refine bY ?_)
  all_goals (refine fe ?_; try exact trivial)
  all_goals simp [fmtHop]

theorem fmtAS_s (t : Tp) (r : Int) (w : tpW t) (hr : i64R r) (h1 : t.ases.length ≤ 1048576) : ACall Try.prog 208 [.agg (tpRow t), .int .i64 r] (.str (fmtAS t r)) [] := by
  by_cases hh : realm t r = true
  · have hr' := realm_lt hh
    have e1 := getD_map_lt (f := asRow) hr'.2
    obtain ⟨w1, w2⟩ := (w.1 _ (List.getElem_mem hr'.2)).1
    obtain ⟨w3, w4⟩ := hr
    have a1 := fmtInt_20 w1 w2
    have a2 := fmtInt_20 w3 w4
    refine acall_mk Try.func208 rfl Try.ntmps208 Try.results208 (by kernel_rfl) (by simp) ?_
    simp only [args, Nat.zero_add, Nat.reduceAdd]
    (have fx := And.intro (@hh) (And.intro (@e1) (@hr'))
     repeat' (first | with_reducible refine go ?_ | with_reducible refine t_region fun KT hT => ?_ | (refine gp fun KK hK => ?_; first | (refine hK _ _ ?_; clear hK KK) | (refine hK _ ?_; clear hK KK; try simp only [upd_mk]) | ((with_reducible first | refine .inl ⟨_, _, ⟨realm_s t _ h1, rfl, csq⟩, hK _ _ (nz ?_)⟩ | refine .inl ⟨_, _, ⟨fmtInt_s _ w1 w2, rfl, csq⟩, hK _ _ (nz ?_)⟩ | refine .inl ⟨_, _, ⟨fmtInt_s r w3 w4, rfl, csq⟩, hK _ _ (nz ?_)⟩ | refine ⟨_, ⟨realm_s t _ h1, rfl, rfl, csq⟩, hK _ (nz ?_)⟩ | refine ⟨_, ⟨fmtInt_s _ w1 w2, rfl, rfl, csq⟩, hK _ (nz ?_)⟩ | refine ⟨_, ⟨fmtInt_s r w3 w4, rfl, rfl, csq⟩, hK _ (nz ?_)⟩); clear hK KK) | (refine ⟨by first | exact eq_hop, hK _ _ ?_⟩; clear hK KK) | (refine ⟨by first | exact eq_hop, hK _ (nz ?_)⟩; clear hK KK) | ((repeat refine And.intro (by first | omega | (rw [getD_map_lt (by omega)]; rfl) | (simp; first | done | omega)) ?_); first | (refine hK _ _ ?_; clear hK KK) | (refine hK _ ?_; clear hK KK; try simp only [upd_mk]))) | ((with_reducible first | refine o_nil (hT _ _ ?_) | refine h_nil (hT _ ?_)); clear hT KT) | ((first | refine gd fun AA BB hA hB => ?_ | refine tc fun AA BB hA hB => ?_); first | (refine go ?_; (first | refine hA ?_ | refine hB ?_); clear hA hB AA BB) | (refine go2 ?_ ?_ <;> intro hb <;> (first | refine hA ?_ | refine hB ?_) <;> clear hA hB AA BB <;> (try simp only [hb, decide_true, decide_false]) <;> (try (exfalso; first | (simp at hb; done) | (simp at hb; omega))))) | (with_reducible refine skS ?_; simp only [upd_mk]) | with_reducible refine tdr fun KT hT => ?_ | with_reducible refine bY ?_)
     all_goals clear fx)
    all_goals (refine fe ?_; try exact trivial)
    all_goals simp [fmtAS, hh]
  · have hh' : realm t r = false := by simpa using hh
    refine acall_mk Try.func208 rfl Try.ntmps208 Try.results208 (by kernel_rfl) (by simp) ?_
    simp only [args, Nat.zero_add, Nat.reduceAdd]
    (have fx := (@hh')
     repeat' (first | with_reducible refine go ?_ | with_reducible refine t_region fun KT hT => ?_ | (refine gp fun KK hK => ?_; first | (refine hK _ _ ?_; clear hK KK) | (refine hK _ ?_; clear hK KK; try simp only [upd_mk]) | ((with_reducible first | refine .inl ⟨_, _, ⟨realm_s t _ h1, rfl, csq⟩, hK _ _ (nz ?_)⟩ | refine ⟨_, ⟨realm_s t _ h1, rfl, rfl, csq⟩, hK _ (nz ?_)⟩); clear hK KK) | (refine ⟨by first | exact eq_hop, hK _ _ ?_⟩; clear hK KK) | (refine ⟨by first | exact eq_hop, hK _ (nz ?_)⟩; clear hK KK) | ((repeat refine And.intro (by first | omega | (rw [getD_map_lt (by omega)]; rfl) | (simp; first | done | omega)) ?_); first | (refine hK _ _ ?_; clear hK KK) | (refine hK _ ?_; clear hK KK; try simp only [upd_mk]))) | ((with_reducible first | refine o_nil (hT _ _ ?_) | refine h_nil (hT _ ?_)); clear hT KT) | ((first | refine gd fun AA BB hA hB => ?_ | refine tc fun AA BB hA hB => ?_); first | (refine go ?_; (first | refine hA ?_ | refine hB ?_); clear hA hB AA BB) | (refine go2 ?_ ?_ <;> intro hb <;> (first | refine hA ?_ | refine hB ?_) <;> clear hA hB AA BB <;> (try simp only [hb, decide_true, decide_false]) <;> (try (exfalso; first | (simp at hb; done) | (simp at hb; omega))))) | (with_reducible refine skS ?_; simp only [upd_mk]) | with_reducible refine tdr fun KT hT => ?_ | with_reducible refine bY ?_)
     all_goals clear fx)
    all_goals (refine fe ?_; try exact trivial)
    all_goals simp [fmtAS, hh']

theorem fmtHop_s (t : Tp) (h : Hp) (w : tpW t) (hw : hopW h) (h1 : t.ases.length ≤ 1048576) : ACall Try.prog 177 [.agg (tpRow t), .agg (hopRow h)] (.str (fmtHop t h)) [] := by
  obtain ⟨w1, ⟨w2, w2'⟩, ⟨w3, w3'⟩, _, _⟩ := hw
  have a0 := fmtAS_len w w1
  have a1 := fmtInt_20 w2 w2'
  have a2 := fmtInt_20 w3 w3'
  refine acall_mk Try.func177 rfl Try.ntmps177 Try.results177 (by kernel_rfl) (by simp) ?_
  simp only [args, Nat.zero_add, Nat.reduceAdd]
  repeat' (first | with_reducible refine go ?_ | with_reducible refine t_region fun KT hT => ?_ | (refine gp fun KK hK => ?_; first | (refine hK _ _ ?_; clear hK KK) | (refine hK _ ?_; clear hK KK; try simp only [upd_mk]) | ((with_reducible first | refine .inl ⟨_, _, ⟨fmtAS_s t _ w w1 h1, rfl, csq⟩, hK _ _ (nz ?_)⟩ | refine .inl ⟨_, _, ⟨fmtInt_s h.ing w2 w2', rfl, csq⟩, hK _ _ (nz ?_)⟩ | refine .inl ⟨_, _, ⟨fmtInt_s h.eg w3 w3', rfl, csq⟩, hK _ _ (nz ?_)⟩ | refine ⟨_, ⟨fmtAS_s t _ w w1 h1, rfl, rfl, csq⟩, hK _ (nz ?_)⟩ | refine ⟨_, ⟨fmtInt_s h.ing w2 w2', rfl, rfl, csq⟩, hK _ (nz ?_)⟩ | refine ⟨_, ⟨fmtInt_s h.eg w3 w3', rfl, rfl, csq⟩, hK _ (nz ?_)⟩); clear hK KK) | (refine ⟨by first | exact eq_hop, hK _ _ ?_⟩; clear hK KK) | (refine ⟨by first | exact eq_hop, hK _ (nz ?_)⟩; clear hK KK) | ((repeat refine And.intro (by first | omega | (rw [getD_map_lt (by omega)]; rfl) | (simp; first | done | omega)) ?_); first | (refine hK _ _ ?_; clear hK KK) | (refine hK _ ?_; clear hK KK; try simp only [upd_mk]))) | ((with_reducible first | refine o_nil (hT _ _ ?_) | refine h_nil (hT _ ?_)); clear hT KT) | ((first | refine gd fun AA BB hA hB => ?_ | refine tc fun AA BB hA hB => ?_); first | (refine go ?_; (first | refine hA ?_ | refine hB ?_); clear hA hB AA BB) | (refine go2 ?_ ?_ <;> intro hb <;> (first | refine hA ?_ | refine hB ?_) <;> clear hA hB AA BB <;> (try simp only [hb, decide_true, decide_false]) <;> (try (exfalso; first | (simp at hb; done) | (simp at hb; omega))))) | (with_reducible refine skS ?_; simp only [upd_mk]) | with_reducible refine tdr fun KT hT => ?_ | with_reducible refine bY ?_)
  all_goals (refine fe ?_; try exact trivial)
  all_goals simp [fmtHop]

end Go.Proofs.Ytmiclkgkfkcnoaa
