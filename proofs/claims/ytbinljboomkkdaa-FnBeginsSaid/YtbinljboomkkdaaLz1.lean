/- The functions of this program, walked by the evaluator: part z, 1. -/
import Derived.Test.YtbinljboomkkdaaLh2
import Derived.Test.YtbinljboomkkdaaLD
namespace Go.Proofs.Ytbinljboomkkdaa
open Go.RowKit
set_option linter.unusedSimpArgs false
set_option linter.unusedVariables false
set_option maxRecDepth 100000
set_option linter.defProp false
namespace GLz1
def gx := And.intro (@hopRow.eq_1) (And.intro (@polRow.eq_1) (And.intro (@segRow.eq_1) (And.intro (@intRow.eq_1) (And.intro (@rowLen_ints) (And.intro (@rowLen_nil) (And.intro (@rowLen_cons) (And.intro (@rowLen_append) (And.intro (@lenL_app) (And.intro (@byteRow.eq_1) (And.intro (@rowLen_bytes) (And.intro (@bytesOf_map) (And.intro (@bytesOf_cons) (And.intro (@bytesOf_one) (And.intro (@rowLen_strs) (And.intro (@asRow.eq_1) (And.intro (@lkRow.eq_1) (And.intro (@tpRow.eq_1) (And.intro (@rowLen_hops) (And.intro (@rowLen_ases) (And.intro (@rowLen_links) (And.intro (@bcRow.eq_1) (And.intro (@rowLen_bcs) (@u8Row.eq_1)))))))))))))))))))))))
end GLz1
open GLz1
set_option maxHeartbeats 4000000 in
theorem lkOk_s (t : Tp) (l : Lk) (h1 : t.ases.length ≤ 1048576) : ACall Try.prog 207 [.agg (tpRow t), .agg (lkRow l)] (.bool (lkOk t l)) [] := by
  rcases Bool.eq_false_or_eq_true (realm t l.a) with q1 | q1
  · rcases Bool.eq_false_or_eq_true (realm t l.b) with q2 | q2
    · have hl1 := realm_lt q1
      have hl2 := realm_lt q2
      have e1 := getD_map_lt (f := asRow) hl1.2
      have e2 := getD_map_lt (f := asRow) hl2.2
      have ca : coreF t l.a = (t.ases[l.a.toNat]'hl1.2).core := by rw [coreF, dif_pos q1]
      have cb : coreF t l.b = (t.ases[l.b.toNat]'hl2.2).core := by rw [coreF, dif_pos q2]
      have ia : isdF t l.a = (t.ases[l.a.toNat]'hl1.2).isd := by rw [isdF, dif_pos q1]
      have ib : isdF t l.b = (t.ases[l.b.toNat]'hl2.2).isd := by rw [isdF, dif_pos q2]
      have hk : lkOk t l = (decide (l.a < l.b) && inR l.ai 1 6 && inR l.bi 1 6 && (if l.kind == 1 then (t.ases[l.a.toNat]'hl1.2).core && (t.ases[l.b.toNat]'hl2.2).core else if l.kind == 2 then ((t.ases[l.a.toNat]'hl1.2).isd == (t.ases[l.b.toNat]'hl2.2).isd) && !(t.ases[l.b.toNat]'hl2.2).core else (l.kind == 3) && !(t.ases[l.a.toNat]'hl1.2).core && !(t.ases[l.b.toNat]'hl2.2).core)) := by
        rw [lkOk, q1, q2, ca, cb, ia, ib]; rfl
      rw [hk]
      simp only [asRow] at e1 e2
      generalize (t.ases[l.a.toNat]'hl1.2).core = c1 at *
      generalize (t.ases[l.b.toNat]'hl2.2).core = c2 at *
      generalize (t.ases[l.a.toNat]'hl1.2).isd = s1 at *
      generalize (t.ases[l.b.toNat]'hl2.2).isd = s2 at *
      have hge : ∀ a b : Int, decide (b ≤ a) = !decide (a < b) := by intro a b; by_cases h : a < b <;> simp [h] <;> omega
      have hg := hge l.a l.b
      refine acall_mk Try.func207 rfl Try.ntmps207 Try.results207 (by kernel_rfl) (by simp) ?_
      simp only [args, Nat.zero_add, Nat.reduceAdd]
      (have fx := And.intro (@q1) (And.intro (@q2) (And.intro (@e1) (And.intro (@e2) (And.intro (@hl1) (And.intro (@hl2) (@hg))))))
       repeat' (first | with_reducible refine go ?_ | with_reducible refine t_region fun KT hT => ?_ | (refine gp fun KK hK => ?_; first | (refine hK _ _ ?_; clear hK KK) | (refine hK _ ?_; clear hK KK; try simp only [upd_mk]) | ((with_reducible first | refine .inl ⟨_, _, ⟨realm_s t _ h1, rfl, csq⟩, hK _ _ (nz ?_)⟩ | refine .inl ⟨_, _, ⟨l1In_s _ _ _, rfl, csq⟩, hK _ _ (nz ?_)⟩ | refine ⟨_, ⟨realm_s t _ h1, rfl, rfl, csq⟩, hK _ (nz ?_)⟩ | refine ⟨_, ⟨l1In_s _ _ _, rfl, rfl, csq⟩, hK _ (nz ?_)⟩); clear hK KK) | (refine ⟨by first | exact eq_hop, hK _ _ ?_⟩; clear hK KK) | (refine ⟨by first | exact eq_hop, hK _ (nz ?_)⟩; clear hK KK) | ((repeat refine And.intro (by first | omega | (rw [getD_map_lt (by omega)]; rfl) | (simp; first | done | omega)) ?_); first | (refine hK _ _ ?_; clear hK KK) | (refine hK _ ?_; clear hK KK; try simp only [upd_mk]))) | ((with_reducible first | refine o_nil (hT _ _ ?_) | refine h_nil (hT _ ?_)); clear hT KT) | ((first | refine gd fun AA BB hA hB => ?_ | refine tc fun AA BB hA hB => ?_); first | (refine go ?_; (first | refine hA ?_ | refine hB ?_); clear hA hB AA BB) | (refine go2 ?_ ?_ <;> intro hb <;> (first | refine hA ?_ | refine hB ?_) <;> clear hA hB AA BB <;> (try simp only [hb, decide_true, decide_false]) <;> (try (exfalso; first | (simp at hb; done) | (simp at hb; omega))))) | (with_reducible refine skS ?_; simp only [upd_mk]) | with_reducible refine tdr fun KT hT => ?_ | with_reducible refine bY ?_)
       all_goals clear fx)
      all_goals (refine fe ?_; try exact trivial)
      all_goals clear hk ca cb ia ib e1 e2 hg hge
      all_goals simp_all
      all_goals (intros; omega)
    · have hk : lkOk t l = false := by rw [lkOk, q1, q2]; rfl
      rw [hk]
      refine acall_mk Try.func207 rfl Try.ntmps207 Try.results207 (by kernel_rfl) (by simp) ?_
      simp only [args, Nat.zero_add, Nat.reduceAdd]
      (have fx := And.intro (@q1) (@q2)
       repeat' (first | with_reducible refine go ?_ | with_reducible refine t_region fun KT hT => ?_ | (refine gp fun KK hK => ?_; first | (refine hK _ _ ?_; clear hK KK) | (refine hK _ ?_; clear hK KK; try simp only [upd_mk]) | ((with_reducible first | refine .inl ⟨_, _, ⟨realm_s t _ h1, rfl, csq⟩, hK _ _ (nz ?_)⟩ | refine ⟨_, ⟨realm_s t _ h1, rfl, rfl, csq⟩, hK _ (nz ?_)⟩); clear hK KK) | (refine ⟨by first | exact eq_hop, hK _ _ ?_⟩; clear hK KK) | (refine ⟨by first | exact eq_hop, hK _ (nz ?_)⟩; clear hK KK) | ((repeat refine And.intro (by first | omega | (rw [getD_map_lt (by omega)]; rfl) | (simp; first | done | omega)) ?_); first | (refine hK _ _ ?_; clear hK KK) | (refine hK _ ?_; clear hK KK; try simp only [upd_mk]))) | ((with_reducible first | refine o_nil (hT _ _ ?_) | refine h_nil (hT _ ?_)); clear hT KT) | ((first | refine gd fun AA BB hA hB => ?_ | refine tc fun AA BB hA hB => ?_); first | (refine go ?_; (first | refine hA ?_ | refine hB ?_); clear hA hB AA BB) | (refine go2 ?_ ?_ <;> intro hb <;> (first | refine hA ?_ | refine hB ?_) <;> clear hA hB AA BB <;> (try simp only [hb, decide_true, decide_false]) <;> (try (exfalso; first | (simp at hb; done) | (simp at hb; omega))))) | (with_reducible refine skS ?_; simp only [upd_mk]) | with_reducible refine tdr fun KT hT => ?_ | with_reducible refine bY ?_)
       all_goals clear fx)
      all_goals (refine fe ?_; try exact trivial)
  · have hk : lkOk t l = false := by rw [lkOk, q1]; rfl
    rw [hk]
    refine acall_mk Try.func207 rfl Try.ntmps207 Try.results207 (by kernel_rfl) (by simp) ?_
    simp only [args, Nat.zero_add, Nat.reduceAdd]
    (have fx := (@q1)
     repeat' (first | with_reducible refine go ?_ | with_reducible refine t_region fun KT hT => ?_ | (refine gp fun KK hK => ?_; first | (refine hK _ _ ?_; clear hK KK) | (refine hK _ ?_; clear hK KK; try simp only [upd_mk]) | ((with_reducible first | refine .inl ⟨_, _, ⟨realm_s t _ h1, rfl, csq⟩, hK _ _ (nz ?_)⟩ | refine ⟨_, ⟨realm_s t _ h1, rfl, rfl, csq⟩, hK _ (nz ?_)⟩); clear hK KK) | (refine ⟨by first | exact eq_hop, hK _ _ ?_⟩; clear hK KK) | (refine ⟨by first | exact eq_hop, hK _ (nz ?_)⟩; clear hK KK) | ((repeat refine And.intro (by first | omega | (rw [getD_map_lt (by omega)]; rfl) | (simp; first | done | omega)) ?_); first | (refine hK _ _ ?_; clear hK KK) | (refine hK _ ?_; clear hK KK; try simp only [upd_mk]))) | ((with_reducible first | refine o_nil (hT _ _ ?_) | refine h_nil (hT _ ?_)); clear hT KT) | ((first | refine gd fun AA BB hA hB => ?_ | refine tc fun AA BB hA hB => ?_); first | (refine go ?_; (first | refine hA ?_ | refine hB ?_); clear hA hB AA BB) | (refine go2 ?_ ?_ <;> intro hb <;> (first | refine hA ?_ | refine hB ?_) <;> clear hA hB AA BB <;> (try simp only [hb, decide_true, decide_false]) <;> (try (exfalso; first | (simp at hb; done) | (simp at hb; omega))))) | (with_reducible refine skS ?_; simp only [upd_mk]) | with_reducible refine tdr fun KT hT => ?_ | with_reducible refine bY ?_)
     all_goals clear fx)
    all_goals (refine fe ?_; try exact trivial)

end Go.Proofs.Ytbinljboomkkdaa
