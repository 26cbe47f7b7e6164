/- The functions of this program, walked by the evaluator: part n, 2. -/
import Derived.Test.YtmiclkgkfkcnoaaGreatLn1
namespace Go.Proofs.YtmiclkgkfkcnoaaGreat
open Go.RowKit
set_option linter.unusedSimpArgs false
set_option linter.unusedVariables false
set_option maxRecDepth 100000
set_option linter.defProp false
namespace GLn2
def gx := And.intro (@hopRow.eq_1) (And.intro (@polRow.eq_1) (And.intro (@segRow.eq_1) (And.intro (@intRow.eq_1) (And.intro (@rowLen_ints) (And.intro (@rowLen_nil) (And.intro (@rowLen_cons) (And.intro (@rowLen_append) (And.intro (@lenL_app) (And.intro (@byteRow.eq_1) (And.intro (@rowLen_bytes) (And.intro (@bytesOf_map) (And.intro (@bytesOf_cons) (And.intro (@bytesOf_one) (And.intro (@rowLen_strs) (And.intro (@asRow.eq_1) (And.intro (@lkRow.eq_1) (And.intro (@tpRow.eq_1) (And.intro (@rowLen_hops) (And.intro (@rowLen_ases) (And.intro (@rowLen_links) (And.intro (@bcRow.eq_1) (@rowLen_bcs))))))))))))))))))))))
end GLn2
open GLn2
set_option maxHeartbeats 4000000 in
theorem canExt_s (t : Tp) (s : Sg) (r inn : Int) (h1 : t.ases.length ≤ 1048576) (h2 : t.links.length ≤ 1048576) (hl : s.hops.length ≤ 1048576) : ACall Tryz.prog 12 [.agg (tpRow t), .agg (segRow s), .int .i64 r, .int .i64 inn] (.bool (canExt t s r inn)) [] := by
  by_cases hv0 : validSeg t s = true
  · have h0 := (well_len (validSeg_well hv0)).1
    have h' : s.hops.length - 1 < s.hops.length := by omega
    have w2 := wrapP h0 (by omega)
    have e4 := getD_map_lt (f := hopRow) h'
    have e8 : s.hops.getD (s.hops.length - 1) hz = s.hops[s.hops.length - 1] := getD_lt h'
    have hq : canExt t s r inn = (realm t r && !isTerm s && !hasI (ases s.hops) r && ((remote t s.hops[s.hops.length - 1].asn s.hops[s.hops.length - 1].eg).1 == r && (remote t s.hops[s.hops.length - 1].asn s.hops[s.hops.length - 1].eg).2 == inn)) := by
      simp only [canExt, hv0, e8, Bool.and_true]
    rw [hq]
    clear hq e8
    have c := remote_s t s.hops[s.hops.length - 1].asn s.hops[s.hops.length - 1].eg h2
    generalize remote t s.hops[s.hops.length - 1].asn s.hops[s.hops.length - 1].eg = q at *
    obtain ⟨q1, q2⟩ := q
    simp only at c ⊢
    have hla : (ases s.hops).length ≤ 16777216 := by simp only [ases, List.length_map]; omega
    refine acall_mk Tryz.func12 rfl Tryz.ntmps12 Tryz.results12 (by kernel_rfl) (by simp) ?_
    simp only [args, Nat.zero_add, Nat.reduceAdd]
    (have fx := And.intro (@hv0) (And.intro (@h') (And.intro (@w2) (@e4)))
     repeat' (first | with_reducible refine go ?_ | with_reducible refine t_region fun KT hT => ?_ | (refine gp fun KK hK => ?_; first | ((with_reducible first | refine .inl ⟨_, _, ⟨realm_s t _ h1, rfl, csq⟩, hK _ _ (nz ?_)⟩ | refine .inl ⟨_, _, ⟨validSeg_s t s h1 h2 hl, rfl, csq⟩, hK _ _ (nz ?_)⟩ | refine .inl ⟨_, _, ⟨isTerm_s s hl, rfl, csq⟩, hK _ _ (nz ?_)⟩ | refine .inl ⟨_, _, ⟨ases_s s hl, rfl, csq⟩, hK _ _ (nz ?_)⟩ | refine .inl ⟨_, _, ⟨hasI_s (ases s.hops) _ hla, rfl, csq⟩, hK _ _ (nz ?_)⟩ | refine .inl ⟨_, _, ⟨c, rfl, csq⟩, hK _ _ (nz ?_)⟩ | refine ⟨_, ⟨realm_s t _ h1, rfl, rfl, csq⟩, hK _ (nz ?_)⟩ | refine ⟨_, ⟨validSeg_s t s h1 h2 hl, rfl, rfl, csq⟩, hK _ (nz ?_)⟩ | refine ⟨_, ⟨isTerm_s s hl, rfl, rfl, csq⟩, hK _ (nz ?_)⟩ | refine ⟨_, ⟨ases_s s hl, rfl, rfl, csq⟩, hK _ (nz ?_)⟩ | refine ⟨_, ⟨hasI_s (ases s.hops) _ hla, rfl, rfl, csq⟩, hK _ (nz ?_)⟩ | refine ⟨_, ⟨c, rfl, rfl, csq⟩, hK _ (nz ?_)⟩); clear hK KK) | (refine ⟨by first | exact eq_hop, ?_⟩; (first | refine hK _ _ ?_ | refine hK _ (nz ?_)); clear hK KK) | ((repeat refine And.intro (by first | omega | (rw [getD_map_lt (by omega)]; rfl) | (simp; first | done | omega)) ?_); first | (refine hK _ _ ?_; clear hK KK) | (refine hK _ ?_; clear hK KK; try simp only [upd_mk]))) | ((with_reducible first | refine o_nil (hT _ _ ?_) | refine h_nil (hT _ ?_)); clear hT KT) | ((first | refine gd fun AA BB hA hB => ?_ | refine tc fun AA BB hA hB => ?_); first | (refine go ?_; (first | refine hA ?_ | refine hB ?_); clear hA hB AA BB) | (refine go2 ?_ ?_ <;> intro hb <;> (first | refine hA ?_ | refine hB ?_) <;> clear hA hB AA BB <;> (try simp only [hb, decide_true, decide_false]) <;> (try (exfalso; first | (simp at hb; done) | (simp at hb; omega))))) | (with_reducible refine skS ?_; simp only [upd_mk]) | with_reducible refine tdr fun KT hT => ?_ | with_reducible refine bY ?_)
     all_goals clear fx)
    all_goals (refine fe ?_; try exact trivial)
    all_goals simp_all
  · have hv1 : validSeg t s = false := by simpa using hv0
    have hq : canExt t s r inn = false := by simp only [canExt, hv1, Bool.and_false, Bool.false_and]
    rw [hq]
    refine acall_mk Tryz.func12 rfl Tryz.ntmps12 Tryz.results12 (by kernel_rfl) (by simp) ?_
    simp only [args, Nat.zero_add, Nat.reduceAdd]
    (have fx := (@hv1)
     repeat' (first | with_reducible refine go ?_ | with_reducible refine t_region fun KT hT => ?_ | (refine gp fun KK hK => ?_; first | ((with_reducible first | refine .inl ⟨_, _, ⟨realm_s t _ h1, rfl, csq⟩, hK _ _ (nz ?_)⟩ | refine .inl ⟨_, _, ⟨validSeg_s t s h1 h2 hl, rfl, csq⟩, hK _ _ (nz ?_)⟩ | refine ⟨_, ⟨realm_s t _ h1, rfl, rfl, csq⟩, hK _ (nz ?_)⟩ | refine ⟨_, ⟨validSeg_s t s h1 h2 hl, rfl, rfl, csq⟩, hK _ (nz ?_)⟩); clear hK KK) | (refine ⟨by first | exact eq_hop, ?_⟩; (first | refine hK _ _ ?_ | refine hK _ (nz ?_)); clear hK KK) | ((repeat refine And.intro (by first | omega | (rw [getD_map_lt (by omega)]; rfl) | (simp; first | done | omega)) ?_); first | (refine hK _ _ ?_; clear hK KK) | (refine hK _ ?_; clear hK KK; try simp only [upd_mk]))) | ((with_reducible first | refine o_nil (hT _ _ ?_) | refine h_nil (hT _ ?_)); clear hT KT) | ((first | refine gd fun AA BB hA hB => ?_ | refine tc fun AA BB hA hB => ?_); first | (refine go ?_; (first | refine hA ?_ | refine hB ?_); clear hA hB AA BB) | (refine go2 ?_ ?_ <;> intro hb <;> (first | refine hA ?_ | refine hB ?_) <;> clear hA hB AA BB <;> (try simp only [hb, decide_true, decide_false]) <;> (try (exfalso; first | (simp at hb; done) | (simp at hb; omega))))) | (with_reducible refine skS ?_; simp only [upd_mk]) | with_reducible refine tdr fun KT hT => ?_ | with_reducible refine bY ?_)
     all_goals clear fx)
    all_goals (refine fe ?_; try exact trivial)

end Go.Proofs.YtmiclkgkfkcnoaaGreat
