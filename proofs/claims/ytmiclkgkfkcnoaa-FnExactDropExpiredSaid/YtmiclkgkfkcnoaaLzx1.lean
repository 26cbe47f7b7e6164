/- The functions of this program, walked by the evaluator: part zx, 1. -/
import Derived.Test.YtmiclkgkfkcnoaaLt1
import Derived.Test.YtmiclkgkfkcnoaaLD
namespace Go.Proofs.Ytmiclkgkfkcnoaa
open Go.RowKit
set_option linter.unusedSimpArgs false
set_option linter.unusedVariables false
set_option maxRecDepth 100000
set_option linter.defProp false
namespace GLzx1
def gx := And.intro (@hopRow.eq_1) (And.intro (@polRow.eq_1) (And.intro (@segRow.eq_1) (And.intro (@intRow.eq_1) (And.intro (@rowLen_ints) (And.intro (@rowLen_nil) (And.intro (@rowLen_cons) (And.intro (@rowLen_append) (And.intro (@lenL_app) (And.intro (@byteRow.eq_1) (And.intro (@rowLen_bytes) (And.intro (@bytesOf_map) (And.intro (@bytesOf_cons) (And.intro (@bytesOf_one) (And.intro (@rowLen_strs) (And.intro (@asRow.eq_1) (And.intro (@lkRow.eq_1) (And.intro (@tpRow.eq_1) (And.intro (@rowLen_hops) (And.intro (@rowLen_ases) (And.intro (@rowLen_links) (And.intro (@bcRow.eq_1) (And.intro (@rowLen_bcs) (@u8Row.eq_1)))))))))))))))))))))))
end GLzx1
open GLzx1
theorem toBeacon_own (b : Bc) (hl : b.seg.hops.length ≤ 1048576) : ACall Try.prog 117 [.agg (bcRow b)] (.agg [.int .i64 b.ing, .int .i64 b.seg.ts, .int .i64 b.seg.beta, .fs 0]) [b.seg.hops.map hopRow] := by
  simp only [bcRow]
  have c := toSegment_own b.seg hl
  simp only [segRow] at c
  refine acall_mk Try.func117 rfl Try.ntmps117 Try.results117 (by kernel_rfl) (by simp) ?_
  simp only [args, Nat.zero_add, Nat.reduceAdd]
  repeat' (first | with_reducible refine go ?_ | with_reducible refine t_region fun KT hT => ?_ | (refine gp fun KK hK => ?_; first | ((with_reducible first | refine .inl ⟨_, _, ⟨c, rfl, csq⟩, hK _ _ (nz ?_)⟩ | refine ⟨_, ⟨c, rfl, rfl, csq⟩, hK _ (nz ?_)⟩); clear hK KK) | (refine ⟨by first | exact eq_hop | exact eq_pol, ?_⟩; (first | refine hK _ _ ?_ | refine hK _ (nz ?_)); clear hK KK) | ((repeat refine And.intro (by first | omega | (rw [getD_map_lt (by omega)]; rfl) | (simp; first | done | omega)) ?_); first | (refine hK _ _ ?_; clear hK KK) | (refine hK _ ?_; clear hK KK; try simp only [upd_mk]))) | ((with_reducible first | refine o_nil (hT _ _ ?_) | refine h_nil (hT _ ?_)); clear hT KT) | ((first | refine gd fun AA BB hA hB => ?_ | refine tc fun AA BB hA hB => ?_); first | (refine go ?_; (first | refine hA ?_ | refine hB ?_); clear hA hB AA BB) | (refine go2 ?_ ?_ <;> intro hb <;> (first | refine hA ?_ | refine hB ?_) <;> clear hA hB AA BB <;> (try simp only [hb, decide_true, decide_false]) <;> (try (exfalso; first | (simp at hb; done) | (simp at hb; omega))))) | (with_reducible refine skS ?_; simp only [upd_mk]) | with_reducible refine tdr fun KT hT => ?_ | with_reducible refine bY ?_)
  (refine fo [1009] ?_; try exact trivial)
  exact ⟨rfl, rfl, by simp⟩

theorem toBeacon_n (b : Bc) (hl : b.seg.hops.length ≤ 1048576) : NCall Try.prog 117 [.agg (bcRow b)] (fun S r => ∃ g, S = [(g, b.seg.hops.map hopRow)] ∧ r = .agg (vRow g b)) := by
  refine (ncall_of (toBeacon_own b hl) rfl rfl (flat_map (fun _ => rfl) _)).mono ?_
  rintro S r ⟨g, h1, h2⟩
  exact ⟨g, h1, by rw [h2]; simp [nsD, nsL, vRow]⟩

set_option maxHeartbeats 8000000 in
theorem copyBc_n (b : Bc) (hl : b.seg.hops.length ≤ 1048576) : NCall Try.prog 106 [.agg (bcRow b)] (fun S r => ∃ g, S = [(g, b.seg.hops.map hopRow)] ∧ r = .agg (vRow g b)) := by
  have c0 := (ncall_of (copySeg_i b.seg hl) rfl rfl (flat_map (fun _ => rfl) _)).mono (R' := fun S r => ∃ g, S = [(g, b.seg.hops.map hopRow)] ∧ r = .agg [.int .i64 b.seg.ts, .int .i64 b.seg.beta, .lv g b.seg.hops.length]) (by
    rintro S r ⟨g, h1, h2⟩
    exact ⟨g, h1, by rw [h2]; simp [nsD, nsL]⟩)
  simp only [segRow] at c0
  simp only [bcRow]
  refine ncallA_mk Try.func106 rfl Try.ntmps106 Try.results106 (by kernel_rfl) (by simp) ?_
  simp only [args, Nat.zero_add, Nat.reduceAdd]
  refine f_seq ?_
  repeat' (first | with_reducible refine go ?_ | with_reducible refine t_region fun KT hT => ?_ | (refine gp fun KK hK => ?_; first | (refine ⟨by first | exact eq_hop | exact eq_pol, ?_⟩; (first | refine hK _ _ ?_ | refine hK _ (nz ?_)); clear hK KK) | ((repeat refine And.intro (by first | omega | (rw [getD_map_lt (by omega)]; rfl) | (simp; first | done | omega)) ?_); first | (refine hK _ _ ?_; clear hK KK) | (refine hK _ ?_; clear hK KK; try simp only [upd_mk]))) | ((with_reducible first | refine o_nil (hT _ _ ?_) | refine h_nil (hT _ ?_)); clear hT KT) | ((first | refine gd fun AA BB hA hB => ?_ | refine tc fun AA BB hA hB => ?_); first | (refine go ?_; (first | refine hA ?_ | refine hB ?_); clear hA hB AA BB) | (refine go2 ?_ ?_ <;> intro hb <;> (first | refine hA ?_ | refine hB ?_) <;> clear hA hB AA BB <;> (try simp only [hb, decide_true, decide_false]) <;> (try (exfalso; first | (simp at hb; done) | (simp at hb; omega))))) | (with_reducible refine skS ?_; simp only [upd_mk]) | with_reducible refine tdr fun KT hT => ?_ | with_reducible refine bY ?_)
  refine f_then (TrF.seq (f_any (by kernel_rfl) ?_))
  refine anyF_step (r := [0, 2]) (by kernel_rfl) (by decide) (all_cons ?_ (all_cons ?_ all_nil))
  · refine opL_m (by rfl) (by rfl) fun KT hT => ?_
    (refine gp fun KK hK => ?_; first | (refine hK _ _ ?_; clear hK KK) | (refine hK _ ?_; clear hK KK; try simp only [upd_mk]))
    refine o_nil (hT _ _ ?_); clear hT KT
    refine anyF_step (r := [1, 2]) (by kernel_rfl) (by decide) (all_cons ?_ (all_cons ?_ all_nil))
    · refine opL_m (by rfl) (by rfl) fun KT hT => ?_
      (refine gp fun KK hK => ?_; first | (refine hK _ _ ?_; clear hK KK) | (refine hK _ ?_; clear hK KK; try simp only [upd_mk]))
      refine o_nil (hT _ _ ?_); clear hT KT
      refine anyF_step (r := [2]) (by kernel_rfl) (by decide) (all_cons ?_ all_nil)
      refine opL_m (by rfl) (by rfl) fun KT hT => ?_
      (refine gp fun KK hK => ?_; first | (refine hK _ _ ?_; clear hK KK) | (refine hK _ ?_; clear hK KK; try simp only [upd_mk]))
      refine o_nil (hT _ _ ?_); clear hT KT
      refine anyF_step (r := [3]) (by kernel_rfl) (by decide) (all_cons ?_ all_nil)
      refine opL_m (by rfl) (by rfl) fun KT hT => ?_
      (refine gp fun KK hK => ?_; first | (refine hK _ _ ?_; clear hK KK) | (refine hK _ ?_; clear hK KK; try simp only [upd_mk]))
      refine o_nil (hT _ _ ?_); clear hT KT
      refine anyF_step (r := [4]) (by kernel_rfl) (by decide) (all_cons ?_ all_nil)
      refine opL_s (by rfl) (by rfl) (sp_new _ c0 (by decide) rfl (OpnL.refl _ _) ?_)
      rintro S2 r2 ⟨g, rfl, rfl⟩; simp only [upd_mk]
      refine anyF_step (r := [5]) (by kernel_rfl) (by decide) (all_cons ?_ all_nil)
      refine opL_m (by rfl) (by rfl) fun KT hT => ?_
      (refine gp fun KK hK => ?_; first | (refine hK _ _ ?_; clear hK KK) | (refine hK _ ?_; clear hK KK; try simp only [upd_mk]))
      refine o_nil (hT _ _ ?_); clear hT KT
      refine anyF_step (r := [6]) (by kernel_rfl) (by decide) (all_cons ?_ all_nil)
      refine opL_m (by rfl) (by rfl) fun KT hT => ?_
      (refine gp fun KK hK => ?_; first | (refine hK _ _ ?_; clear hK KK) | (refine hK _ ?_; clear hK KK; try simp only [upd_mk]))
      refine o_nil (hT _ _ ?_); clear hT KT
      refine anyF_end (by kernel_rfl) ?_
      refine f_then (TrF.ret (ff ?_))
      exact ⟨_, rfl, by intro x hx; simp at hx; rcases hx with rfl | rfl | rfl | rfl <;> rfl, g, rfl, rfl⟩
    · refine opL_m (by rfl) (by rfl) fun KT hT => ?_
      (refine gp fun KK hK => ?_; first | (refine hK _ _ ?_; clear hK KK) | (refine hK _ ?_; clear hK KK; try simp only [upd_mk]))
      refine o_nil (hT _ _ ?_); clear hT KT
      refine anyF_step (r := [1, 3]) (by kernel_rfl) (by decide) (all_cons ?_ (all_cons ?_ all_nil))
      · refine opL_m (by rfl) (by rfl) fun KT hT => ?_
        (refine gp fun KK hK => ?_; first | (refine hK _ _ ?_; clear hK KK) | (refine hK _ ?_; clear hK KK; try simp only [upd_mk]))
        refine o_nil (hT _ _ ?_); clear hT KT
        refine anyF_step (r := [3]) (by kernel_rfl) (by decide) (all_cons ?_ all_nil)
        refine opL_m (by rfl) (by rfl) fun KT hT => ?_
        (refine gp fun KK hK => ?_; first | (refine hK _ _ ?_; clear hK KK) | (refine hK _ ?_; clear hK KK; try simp only [upd_mk]))
        refine o_nil (hT _ _ ?_); clear hT KT
        refine anyF_step (r := [4]) (by kernel_rfl) (by decide) (all_cons ?_ all_nil)
        refine opL_s (by rfl) (by rfl) (sp_new _ c0 (by decide) rfl (OpnL.refl _ _) ?_)
        rintro S2 r2 ⟨g, rfl, rfl⟩; simp only [upd_mk]
        refine anyF_step (r := [5]) (by kernel_rfl) (by decide) (all_cons ?_ all_nil)
        refine opL_m (by rfl) (by rfl) fun KT hT => ?_
        (refine gp fun KK hK => ?_; first | (refine hK _ _ ?_; clear hK KK) | (refine hK _ ?_; clear hK KK; try simp only [upd_mk]))
        refine o_nil (hT _ _ ?_); clear hT KT
        refine anyF_step (r := [6]) (by kernel_rfl) (by decide) (all_cons ?_ all_nil)
        refine opL_m (by rfl) (by rfl) fun KT hT => ?_
        (refine gp fun KK hK => ?_; first | (refine hK _ _ ?_; clear hK KK) | (refine hK _ ?_; clear hK KK; try simp only [upd_mk]))
        refine o_nil (hT _ _ ?_); clear hT KT
        refine anyF_end (by kernel_rfl) ?_
        refine f_then (TrF.ret (ff ?_))
        exact ⟨_, rfl, by intro x hx; simp at hx; rcases hx with rfl | rfl | rfl | rfl <;> rfl, g, rfl, rfl⟩
      · refine opL_m (by rfl) (by rfl) fun KT hT => ?_
        (refine gp fun KK hK => ?_; first | (refine hK _ _ ?_; clear hK KK) | (refine hK _ ?_; clear hK KK; try simp only [upd_mk]))
        refine o_nil (hT _ _ ?_); clear hT KT
        refine anyF_step (r := [1, 4]) (by kernel_rfl) (by decide) (all_cons ?_ (all_cons ?_ all_nil))
        · refine opL_m (by rfl) (by rfl) fun KT hT => ?_
          (refine gp fun KK hK => ?_; first | (refine hK _ _ ?_; clear hK KK) | (refine hK _ ?_; clear hK KK; try simp only [upd_mk]))
          refine o_nil (hT _ _ ?_); clear hT KT
          refine anyF_step (r := [4]) (by kernel_rfl) (by decide) (all_cons ?_ all_nil)
          refine opL_s (by rfl) (by rfl) (sp_new _ c0 (by decide) rfl (OpnL.refl _ _) ?_)
          rintro S2 r2 ⟨g, rfl, rfl⟩; simp only [upd_mk]
          refine anyF_step (r := [5]) (by kernel_rfl) (by decide) (all_cons ?_ all_nil)
          refine opL_m (by rfl) (by rfl) fun KT hT => ?_
          (refine gp fun KK hK => ?_; first | (refine hK _ _ ?_; clear hK KK) | (refine hK _ ?_; clear hK KK; try simp only [upd_mk]))
          refine o_nil (hT _ _ ?_); clear hT KT
          refine anyF_step (r := [6]) (by kernel_rfl) (by decide) (all_cons ?_ all_nil)
          refine opL_m (by rfl) (by rfl) fun KT hT => ?_
          (refine gp fun KK hK => ?_; first | (refine hK _ _ ?_; clear hK KK) | (refine hK _ ?_; clear hK KK; try simp only [upd_mk]))
          refine o_nil (hT _ _ ?_); clear hT KT
          refine anyF_end (by kernel_rfl) ?_
          refine f_then (TrF.ret (ff ?_))
          exact ⟨_, rfl, by intro x hx; simp at hx; rcases hx with rfl | rfl | rfl | rfl <;> rfl, g, rfl, rfl⟩
        · refine opL_s (by rfl) (by rfl) (sp_new _ c0 (by decide) rfl (OpnL.refl _ _) ?_)
          rintro S2 r2 ⟨g, rfl, rfl⟩; simp only [upd_mk]
          refine anyF_step (r := [1]) (by kernel_rfl) (by decide) (all_cons ?_ all_nil)
          refine opL_m (by rfl) (by rfl) fun KT hT => ?_
          (refine gp fun KK hK => ?_; first | (refine hK _ _ ?_; clear hK KK) | (refine hK _ ?_; clear hK KK; try simp only [upd_mk]))
          refine o_nil (hT _ _ ?_); clear hT KT
          refine anyF_step (r := [5]) (by kernel_rfl) (by decide) (all_cons ?_ all_nil)
          refine opL_m (by rfl) (by rfl) fun KT hT => ?_
          (refine gp fun KK hK => ?_; first | (refine hK _ _ ?_; clear hK KK) | (refine hK _ ?_; clear hK KK; try simp only [upd_mk]))
          refine o_nil (hT _ _ ?_); clear hT KT
          refine anyF_step (r := [6]) (by kernel_rfl) (by decide) (all_cons ?_ all_nil)
          refine opL_m (by rfl) (by rfl) fun KT hT => ?_
          (refine gp fun KK hK => ?_; first | (refine hK _ _ ?_; clear hK KK) | (refine hK _ ?_; clear hK KK; try simp only [upd_mk]))
          refine o_nil (hT _ _ ?_); clear hT KT
          refine anyF_end (by kernel_rfl) ?_
          refine f_then (TrF.ret (ff ?_))
          exact ⟨_, rfl, by intro x hx; simp at hx; rcases hx with rfl | rfl | rfl | rfl <;> rfl, g, rfl, rfl⟩
  · refine opL_m (by rfl) (by rfl) fun KT hT => ?_
    (refine gp fun KK hK => ?_; first | (refine hK _ _ ?_; clear hK KK) | (refine hK _ ?_; clear hK KK; try simp only [upd_mk]))
    refine o_nil (hT _ _ ?_); clear hT KT
    refine anyF_step (r := [0, 3]) (by kernel_rfl) (by decide) (all_cons ?_ (all_cons ?_ all_nil))
    · refine opL_m (by rfl) (by rfl) fun KT hT => ?_
      (refine gp fun KK hK => ?_; first | (refine hK _ _ ?_; clear hK KK) | (refine hK _ ?_; clear hK KK; try simp only [upd_mk]))
      refine o_nil (hT _ _ ?_); clear hT KT
      refine anyF_step (r := [1, 3]) (by kernel_rfl) (by decide) (all_cons ?_ (all_cons ?_ all_nil))
      · refine opL_m (by rfl) (by rfl) fun KT hT => ?_
        (refine gp fun KK hK => ?_; first | (refine hK _ _ ?_; clear hK KK) | (refine hK _ ?_; clear hK KK; try simp only [upd_mk]))
        refine o_nil (hT _ _ ?_); clear hT KT
        refine anyF_step (r := [3]) (by kernel_rfl) (by decide) (all_cons ?_ all_nil)
        refine opL_m (by rfl) (by rfl) fun KT hT => ?_
        (refine gp fun KK hK => ?_; first | (refine hK _ _ ?_; clear hK KK) | (refine hK _ ?_; clear hK KK; try simp only [upd_mk]))
        refine o_nil (hT _ _ ?_); clear hT KT
        refine anyF_step (r := [4]) (by kernel_rfl) (by decide) (all_cons ?_ all_nil)
        refine opL_s (by rfl) (by rfl) (sp_new _ c0 (by decide) rfl (OpnL.refl _ _) ?_)
        rintro S2 r2 ⟨g, rfl, rfl⟩; simp only [upd_mk]
        refine anyF_step (r := [5]) (by kernel_rfl) (by decide) (all_cons ?_ all_nil)
        refine opL_m (by rfl) (by rfl) fun KT hT => ?_
        (refine gp fun KK hK => ?_; first | (refine hK _ _ ?_; clear hK KK) | (refine hK _ ?_; clear hK KK; try simp only [upd_mk]))
        refine o_nil (hT _ _ ?_); clear hT KT
        refine anyF_step (r := [6]) (by kernel_rfl) (by decide) (all_cons ?_ all_nil)
        refine opL_m (by rfl) (by rfl) fun KT hT => ?_
        (refine gp fun KK hK => ?_; first | (refine hK _ _ ?_; clear hK KK) | (refine hK _ ?_; clear hK KK; try simp only [upd_mk]))
        refine o_nil (hT _ _ ?_); clear hT KT
        refine anyF_end (by kernel_rfl) ?_
        refine f_then (TrF.ret (ff ?_))
        exact ⟨_, rfl, by intro x hx; simp at hx; rcases hx with rfl | rfl | rfl | rfl <;> rfl, g, rfl, rfl⟩
      · refine opL_m (by rfl) (by rfl) fun KT hT => ?_
        (refine gp fun KK hK => ?_; first | (refine hK _ _ ?_; clear hK KK) | (refine hK _ ?_; clear hK KK; try simp only [upd_mk]))
        refine o_nil (hT _ _ ?_); clear hT KT
        refine anyF_step (r := [1, 4]) (by kernel_rfl) (by decide) (all_cons ?_ (all_cons ?_ all_nil))
        · refine opL_m (by rfl) (by rfl) fun KT hT => ?_
          (refine gp fun KK hK => ?_; first | (refine hK _ _ ?_; clear hK KK) | (refine hK _ ?_; clear hK KK; try simp only [upd_mk]))
          refine o_nil (hT _ _ ?_); clear hT KT
          refine anyF_step (r := [4]) (by kernel_rfl) (by decide) (all_cons ?_ all_nil)
          refine opL_s (by rfl) (by rfl) (sp_new _ c0 (by decide) rfl (OpnL.refl _ _) ?_)
          rintro S2 r2 ⟨g, rfl, rfl⟩; simp only [upd_mk]
          refine anyF_step (r := [5]) (by kernel_rfl) (by decide) (all_cons ?_ all_nil)
          refine opL_m (by rfl) (by rfl) fun KT hT => ?_
          (refine gp fun KK hK => ?_; first | (refine hK _ _ ?_; clear hK KK) | (refine hK _ ?_; clear hK KK; try simp only [upd_mk]))
          refine o_nil (hT _ _ ?_); clear hT KT
          refine anyF_step (r := [6]) (by kernel_rfl) (by decide) (all_cons ?_ all_nil)
          refine opL_m (by rfl) (by rfl) fun KT hT => ?_
          (refine gp fun KK hK => ?_; first | (refine hK _ _ ?_; clear hK KK) | (refine hK _ ?_; clear hK KK; try simp only [upd_mk]))
          refine o_nil (hT _ _ ?_); clear hT KT
          refine anyF_end (by kernel_rfl) ?_
          refine f_then (TrF.ret (ff ?_))
          exact ⟨_, rfl, by intro x hx; simp at hx; rcases hx with rfl | rfl | rfl | rfl <;> rfl, g, rfl, rfl⟩
        · refine opL_s (by rfl) (by rfl) (sp_new _ c0 (by decide) rfl (OpnL.refl _ _) ?_)
          rintro S2 r2 ⟨g, rfl, rfl⟩; simp only [upd_mk]
          refine anyF_step (r := [1]) (by kernel_rfl) (by decide) (all_cons ?_ all_nil)
          refine opL_m (by rfl) (by rfl) fun KT hT => ?_
          (refine gp fun KK hK => ?_; first | (refine hK _ _ ?_; clear hK KK) | (refine hK _ ?_; clear hK KK; try simp only [upd_mk]))
          refine o_nil (hT _ _ ?_); clear hT KT
          refine anyF_step (r := [5]) (by kernel_rfl) (by decide) (all_cons ?_ all_nil)
          refine opL_m (by rfl) (by rfl) fun KT hT => ?_
          (refine gp fun KK hK => ?_; first | (refine hK _ _ ?_; clear hK KK) | (refine hK _ ?_; clear hK KK; try simp only [upd_mk]))
          refine o_nil (hT _ _ ?_); clear hT KT
          refine anyF_step (r := [6]) (by kernel_rfl) (by decide) (all_cons ?_ all_nil)
          refine opL_m (by rfl) (by rfl) fun KT hT => ?_
          (refine gp fun KK hK => ?_; first | (refine hK _ _ ?_; clear hK KK) | (refine hK _ ?_; clear hK KK; try simp only [upd_mk]))
          refine o_nil (hT _ _ ?_); clear hT KT
          refine anyF_end (by kernel_rfl) ?_
          refine f_then (TrF.ret (ff ?_))
          exact ⟨_, rfl, by intro x hx; simp at hx; rcases hx with rfl | rfl | rfl | rfl <;> rfl, g, rfl, rfl⟩
    · refine opL_m (by rfl) (by rfl) fun KT hT => ?_
      (refine gp fun KK hK => ?_; first | (refine hK _ _ ?_; clear hK KK) | (refine hK _ ?_; clear hK KK; try simp only [upd_mk]))
      refine o_nil (hT _ _ ?_); clear hT KT
      refine anyF_step (r := [0, 4]) (by kernel_rfl) (by decide) (all_cons ?_ (all_cons ?_ all_nil))
      · refine opL_m (by rfl) (by rfl) fun KT hT => ?_
        (refine gp fun KK hK => ?_; first | (refine hK _ _ ?_; clear hK KK) | (refine hK _ ?_; clear hK KK; try simp only [upd_mk]))
        refine o_nil (hT _ _ ?_); clear hT KT
        refine anyF_step (r := [1, 4]) (by kernel_rfl) (by decide) (all_cons ?_ (all_cons ?_ all_nil))
        · refine opL_m (by rfl) (by rfl) fun KT hT => ?_
          (refine gp fun KK hK => ?_; first | (refine hK _ _ ?_; clear hK KK) | (refine hK _ ?_; clear hK KK; try simp only [upd_mk]))
          refine o_nil (hT _ _ ?_); clear hT KT
          refine anyF_step (r := [4]) (by kernel_rfl) (by decide) (all_cons ?_ all_nil)
          refine opL_s (by rfl) (by rfl) (sp_new _ c0 (by decide) rfl (OpnL.refl _ _) ?_)
          rintro S2 r2 ⟨g, rfl, rfl⟩; simp only [upd_mk]
          refine anyF_step (r := [5]) (by kernel_rfl) (by decide) (all_cons ?_ all_nil)
          refine opL_m (by rfl) (by rfl) fun KT hT => ?_
          (refine gp fun KK hK => ?_; first | (refine hK _ _ ?_; clear hK KK) | (refine hK _ ?_; clear hK KK; try simp only [upd_mk]))
          refine o_nil (hT _ _ ?_); clear hT KT
          refine anyF_step (r := [6]) (by kernel_rfl) (by decide) (all_cons ?_ all_nil)
          refine opL_m (by rfl) (by rfl) fun KT hT => ?_
          (refine gp fun KK hK => ?_; first | (refine hK _ _ ?_; clear hK KK) | (refine hK _ ?_; clear hK KK; try simp only [upd_mk]))
          refine o_nil (hT _ _ ?_); clear hT KT
          refine anyF_end (by kernel_rfl) ?_
          refine f_then (TrF.ret (ff ?_))
          exact ⟨_, rfl, by intro x hx; simp at hx; rcases hx with rfl | rfl | rfl | rfl <;> rfl, g, rfl, rfl⟩
        · refine opL_s (by rfl) (by rfl) (sp_new _ c0 (by decide) rfl (OpnL.refl _ _) ?_)
          rintro S2 r2 ⟨g, rfl, rfl⟩; simp only [upd_mk]
          refine anyF_step (r := [1]) (by kernel_rfl) (by decide) (all_cons ?_ all_nil)
          refine opL_m (by rfl) (by rfl) fun KT hT => ?_
          (refine gp fun KK hK => ?_; first | (refine hK _ _ ?_; clear hK KK) | (refine hK _ ?_; clear hK KK; try simp only [upd_mk]))
          refine o_nil (hT _ _ ?_); clear hT KT
          refine anyF_step (r := [5]) (by kernel_rfl) (by decide) (all_cons ?_ all_nil)
          refine opL_m (by rfl) (by rfl) fun KT hT => ?_
          (refine gp fun KK hK => ?_; first | (refine hK _ _ ?_; clear hK KK) | (refine hK _ ?_; clear hK KK; try simp only [upd_mk]))
          refine o_nil (hT _ _ ?_); clear hT KT
          refine anyF_step (r := [6]) (by kernel_rfl) (by decide) (all_cons ?_ all_nil)
          refine opL_m (by rfl) (by rfl) fun KT hT => ?_
          (refine gp fun KK hK => ?_; first | (refine hK _ _ ?_; clear hK KK) | (refine hK _ ?_; clear hK KK; try simp only [upd_mk]))
          refine o_nil (hT _ _ ?_); clear hT KT
          refine anyF_end (by kernel_rfl) ?_
          refine f_then (TrF.ret (ff ?_))
          exact ⟨_, rfl, by intro x hx; simp at hx; rcases hx with rfl | rfl | rfl | rfl <;> rfl, g, rfl, rfl⟩
      · refine opL_s (by rfl) (by rfl) (sp_new _ c0 (by decide) rfl (OpnL.refl _ _) ?_)
        rintro S2 r2 ⟨g, rfl, rfl⟩; simp only [upd_mk]
        refine anyF_step (r := [0]) (by kernel_rfl) (by decide) (all_cons ?_ all_nil)
        refine opL_m (by rfl) (by rfl) fun KT hT => ?_
        (refine gp fun KK hK => ?_; first | (refine hK _ _ ?_; clear hK KK) | (refine hK _ ?_; clear hK KK; try simp only [upd_mk]))
        refine o_nil (hT _ _ ?_); clear hT KT
        refine anyF_step (r := [1]) (by kernel_rfl) (by decide) (all_cons ?_ all_nil)
        refine opL_m (by rfl) (by rfl) fun KT hT => ?_
        (refine gp fun KK hK => ?_; first | (refine hK _ _ ?_; clear hK KK) | (refine hK _ ?_; clear hK KK; try simp only [upd_mk]))
        refine o_nil (hT _ _ ?_); clear hT KT
        refine anyF_step (r := [5]) (by kernel_rfl) (by decide) (all_cons ?_ all_nil)
        refine opL_m (by rfl) (by rfl) fun KT hT => ?_
        (refine gp fun KK hK => ?_; first | (refine hK _ _ ?_; clear hK KK) | (refine hK _ ?_; clear hK KK; try simp only [upd_mk]))
        refine o_nil (hT _ _ ?_); clear hT KT
        refine anyF_step (r := [6]) (by kernel_rfl) (by decide) (all_cons ?_ all_nil)
        refine opL_m (by rfl) (by rfl) fun KT hT => ?_
        (refine gp fun KK hK => ?_; first | (refine hK _ _ ?_; clear hK KK) | (refine hK _ ?_; clear hK KK; try simp only [upd_mk]))
        refine o_nil (hT _ _ ?_); clear hT KT
        refine anyF_end (by kernel_rfl) ?_
        refine f_then (TrF.ret (ff ?_))
        exact ⟨_, rfl, by intro x hx; simp at hx; rcases hx with rfl | rfl | rfl | rfl <;> rfl, g, rfl, rfl⟩

set_option maxHeartbeats 8000000 in
theorem toBeaconS_n (hs : List Bc) (hl : hs.length ≤ 1048576) (hx : szB hs ≤ 1048576) : NCall Try.prog 25 [.sl (hs.map bcRow)] (Bun hs) := by
  refine (ncall_mk (R := fun rows S => ∃ gs, gs.length = hs.length ∧ rows = rowsV gs hs ∧ S = nest gs hs) Try.func25 rfl Try.ntmps25 Try.results25 (by kernel_rfl) (by simp) ?_).mono ?_
  · simp only [args, Nat.zero_add, Nat.reduceAdd]
    have c1 : (56 : Int) * (hs.length : Int) ≤ 281474976710656 := by omega
    have c2 : (hs.length : Int) ≤ 9223372036854775807 := by omega
    refine f_seq ?_
    (have fx := And.intro (@c1) (@c2)
     repeat' (first | with_reducible refine go ?_ | with_reducible refine t_region fun KT hT => ?_ | (refine gp fun KK hK => ?_; first | (refine ⟨by first | exact eq_hop | exact eq_pol, ?_⟩; (first | refine hK _ _ ?_ | refine hK _ (nz ?_)); clear hK KK) | ((repeat refine And.intro (by first | omega | (rw [getD_map_lt (by omega)]; rfl) | (simp; first | done | omega)) ?_); first | (refine hK _ _ ?_; clear hK KK) | (refine hK _ ?_; clear hK KK; try simp only [upd_mk]))) | ((with_reducible first | refine o_nil (hT _ _ ?_) | refine h_nil (hT _ ?_)); clear hT KT) | ((first | refine gd fun AA BB hA hB => ?_ | refine tc fun AA BB hA hB => ?_); first | (refine go ?_; (first | refine hA ?_ | refine hB ?_); clear hA hB AA BB) | (refine go2 ?_ ?_ <;> intro hb <;> (first | refine hA ?_ | refine hB ?_) <;> clear hA hB AA BB <;> (try simp only [hb, decide_true, decide_false]) <;> (try (exfalso; first | (simp at hb; done) | (simp at hb; omega))))) | (with_reducible refine skS ?_; simp only [upd_mk]) | with_reducible refine tdr fun KT hT => ?_ | with_reducible refine bY ?_)
     all_goals clear fx)
    refine f_then (f_seq ?_)
    (have fx := And.intro (@c1) (@c2)
     repeat' (first | with_reducible refine go ?_ | with_reducible refine t_region fun KT hT => ?_ | (refine gp fun KK hK => ?_; first | (refine ⟨by first | exact eq_hop | exact eq_pol, ?_⟩; (first | refine hK _ _ ?_ | refine hK _ (nz ?_)); clear hK KK) | ((repeat refine And.intro (by first | omega | (rw [getD_map_lt (by omega)]; rfl) | (simp; first | done | omega)) ?_); first | (refine hK _ _ ?_; clear hK KK) | (refine hK _ ?_; clear hK KK; try simp only [upd_mk]))) | ((with_reducible first | refine o_nil (hT _ _ ?_) | refine h_nil (hT _ ?_)); clear hT KT) | ((first | refine gd fun AA BB hA hB => ?_ | refine tc fun AA BB hA hB => ?_); first | (refine go ?_; (first | refine hA ?_ | refine hB ?_); clear hA hB AA BB) | (refine go2 ?_ ?_ <;> intro hb <;> (first | refine hA ?_ | refine hB ?_) <;> clear hA hB AA BB <;> (try simp only [hb, decide_true, decide_false]) <;> (try (exfalso; first | (simp at hb; done) | (simp at hb; omega))))) | (with_reducible refine skS ?_; simp only [upd_mk]) | with_reducible refine tdr fun KT hT => ?_ | with_reducible refine bY ?_)
     all_goals clear fx)
    refine f_then (TrF.seq (f_seq ?_))
    (have fx := And.intro (@c1) (@c2)
     repeat' (first | with_reducible refine go ?_ | with_reducible refine t_region fun KT hT => ?_ | (refine gp fun KK hK => ?_; first | (refine ⟨by first | exact eq_hop | exact eq_pol, ?_⟩; (first | refine hK _ _ ?_ | refine hK _ (nz ?_)); clear hK KK) | ((repeat refine And.intro (by first | omega | (rw [getD_map_lt (by omega)]; rfl) | (simp; first | done | omega)) ?_); first | (refine hK _ _ ?_; clear hK KK) | (refine hK _ ?_; clear hK KK; try simp only [upd_mk]))) | ((with_reducible first | refine o_nil (hT _ _ ?_) | refine h_nil (hT _ ?_)); clear hT KT) | ((first | refine gd fun AA BB hA hB => ?_ | refine tc fun AA BB hA hB => ?_); first | (refine go ?_; (first | refine hA ?_ | refine hB ?_); clear hA hB AA BB) | (refine go2 ?_ ?_ <;> intro hb <;> (first | refine hA ?_ | refine hB ?_) <;> clear hA hB AA BB <;> (try simp only [hb, decide_true, decide_false]) <;> (try (exfalso; first | (simp at hb; done) | (simp at hb; omega))))) | (with_reducible refine skS ?_; simp only [upd_mk]) | with_reducible refine tdr fun KT hT => ?_ | with_reducible refine bY ?_)
     all_goals clear fx)
    refine f_then (TrF.block ?_)
    refine f_loop (fun q : Nat × List RowG => [(0, .sl (hs.map bcRow)), (3, .fs 7), (4, .int .i64 (q.1 : Int))]) (fun q => [(7, .row (rowsV q.2 (hs.take q.1) ++ List.replicate (hs.length - q.1) [.int .i64 0, .int .i64 0, .int .i64 0, .nl]))]) (fun q => nest q.2 (hs.take q.1)) (fun q => q.1 ≤ hs.length ∧ q.2.length = q.1) (fun q => hs.length - q.1) (0, []) (imp_keep ?_ ?_ rfl) rfl ⟨Nat.zero_le _, rfl⟩ ?_
    · simp [Keep, mk]
    · simp [KeepT, mkT, rowsV]
    · rintro ⟨k, gs⟩ ⟨hk, hgs⟩
      simp only at hk hgs ⊢
      have hgk : gs.length = (hs.take k).length := by rw [List.length_take]; omega
      rcases Nat.lt_or_ge k hs.length with h | h
      · have e1 : decide ((k : Int) < (hs.length : Int)) = true := by simpa using h
        have e2 := getD_map_lt (f := bcRow) h
        have e5 : hs.length - k = hs.length - (k + 1) + 1 := by omega
        have e6 : (rowsV gs (hs.take k)).length = k := by rw [rowsV_len hgk, ← hgk]; exact hgs
        have e3 : ((rowsV gs (hs.take k) ++ List.replicate (hs.length - k) ([.int .i64 0, .int .i64 0, .int .i64 0, .nl] : List D))).length = hs.length := by rw [List.length_append, List.length_replicate, e6]; omega
        have e4 : ((rowsV gs (hs.take k) ++ List.replicate (hs.length - k) ([.int .i64 0, .int .i64 0, .int .i64 0, .nl] : List D))).getD k [] = [.int .i64 0, .int .i64 0, .int .i64 0, .nl] := by
          rw [e5, List.replicate_succ]; exact mid_get e6 _ _
        have e7 : ∀ r : List D, ((rowsV gs (hs.take k) ++ List.replicate (hs.length - k) ([.int .i64 0, .int .i64 0, .int .i64 0, .nl] : List D))).set k r = rowsV gs (hs.take k) ++ r :: List.replicate (hs.length - (k + 1)) [.int .i64 0, .int .i64 0, .int .i64 0, .nl] := by
          intro r; rw [e5, List.replicate_succ]; exact mid_set e6 _ _
        have hz : hs[k].seg.hops.length ≤ 1048576 := Nat.le_trans (szB_mem (List.getElem_mem h)) hx
        refine f_seq ?_
        (have fx := (@e1)
         repeat' (first | with_reducible refine go ?_ | with_reducible refine t_region fun KT hT => ?_ | (refine gp fun KK hK => ?_; first | (refine ⟨by first | exact eq_hop | exact eq_pol, ?_⟩; (first | refine hK _ _ ?_ | refine hK _ (nz ?_)); clear hK KK) | ((repeat refine And.intro (by first | omega | (rw [getD_map_lt (by omega)]; rfl) | (simp; first | done | omega)) ?_); first | (refine hK _ _ ?_; clear hK KK) | (refine hK _ ?_; clear hK KK; try simp only [upd_mk]))) | ((with_reducible first | refine o_nil (hT _ _ ?_) | refine h_nil (hT _ ?_)); clear hT KT) | ((first | refine gd fun AA BB hA hB => ?_ | refine tc fun AA BB hA hB => ?_); first | (refine go ?_; (first | refine hA ?_ | refine hB ?_); clear hA hB AA BB) | (refine go2 ?_ ?_ <;> intro hb <;> (first | refine hA ?_ | refine hB ?_) <;> clear hA hB AA BB <;> (try simp only [hb, decide_true, decide_false]) <;> (try (exfalso; first | (simp at hb; done) | (simp at hb; omega))))) | (with_reducible refine skS ?_; simp only [upd_mk]) | with_reducible refine tdr fun KT hT => ?_ | with_reducible refine bY ?_)
         all_goals clear fx)
        refine f_then (TrF.seq (TrF.block ?_))
        refine f_regionK 6 (by rfl) fun KT hT => ?_
        simp only [List.take_succ_cons, List.take_zero]
        (have fx := And.intro (@e1) (And.intro (@e2) (@h))
         repeat' (first | with_reducible refine go ?_ | with_reducible refine t_region fun KT hT => ?_ | (refine gp fun KK hK => ?_; first | (refine ⟨by first | exact eq_hop | exact eq_pol, ?_⟩; (first | refine hK _ _ ?_ | refine hK _ (nz ?_)); clear hK KK) | ((repeat refine And.intro (by first | omega | (rw [getD_map_lt (by omega)]; rfl) | (simp; first | done | omega)) ?_); first | (refine hK _ _ ?_; clear hK KK) | (refine hK _ ?_; clear hK KK; try simp only [upd_mk]))) | ((with_reducible first | refine o_nil (hT _ _ ?_) | refine h_nil (hT _ ?_)); clear hT KT) | ((first | refine gd fun AA BB hA hB => ?_ | refine tc fun AA BB hA hB => ?_); first | (refine go ?_; (first | refine hA ?_ | refine hB ?_); clear hA hB AA BB) | (refine go2 ?_ ?_ <;> intro hb <;> (first | refine hA ?_ | refine hB ?_) <;> clear hA hB AA BB <;> (try simp only [hb, decide_true, decide_false]) <;> (try (exfalso; first | (simp at hb; done) | (simp at hb; omega))))) | (with_reducible refine skS ?_; simp only [upd_mk]) | with_reducible refine tdr fun KT hT => ?_ | with_reducible refine bY ?_)
         all_goals clear fx)
        refine ⟨trivial, sp_new [.agg (bcRow hs[k])] (toBeacon_n hs[k] hz) (by decide) rfl (OpnL.refl _ _) ?_⟩
        rintro S' r ⟨g, rfl, rfl⟩ KT hT
        simp only [upd_mk, vRow]
        (have fx := And.intro (@e3) (And.intro (@e4) (And.intro (@e7) (@h)))
         repeat' (first | with_reducible refine go ?_ | with_reducible refine t_region fun KT hT => ?_ | (refine gp fun KK hK => ?_; first | (refine ⟨by first | exact eq_hop | exact eq_pol, ?_⟩; (first | refine hK _ _ ?_ | refine hK _ (nz ?_)); clear hK KK) | ((repeat refine And.intro (by first | omega | (rw [getD_map_lt (by omega)]; rfl) | (simp; first | done | omega)) ?_); first | (refine hK _ _ ?_; clear hK KK) | (refine hK _ ?_; clear hK KK; try simp only [upd_mk]))) | ((with_reducible first | refine o_nil (hT _ _ ?_) | refine h_nil (hT _ ?_)); clear hT KT) | ((first | refine gd fun AA BB hA hB => ?_ | refine tc fun AA BB hA hB => ?_); first | (refine go ?_; (first | refine hA ?_ | refine hB ?_); clear hA hB AA BB) | (refine go2 ?_ ?_ <;> intro hb <;> (first | refine hA ?_ | refine hB ?_) <;> clear hA hB AA BB <;> (try simp only [hb, decide_true, decide_false]) <;> (try (exfalso; first | (simp at hb; done) | (simp at hb; omega))))) | (with_reducible refine skS ?_; simp only [upd_mk]) | with_reducible refine tdr fun KT hT => ?_ | with_reducible refine bY ?_)
         all_goals clear fx)
        refine f_blk (f_then (TrF.of ?_))
        repeat' (first | with_reducible refine go ?_ | with_reducible refine t_region fun KT hT => ?_ | (refine gp fun KK hK => ?_; first | (refine ⟨by first | exact eq_hop | exact eq_pol, ?_⟩; (first | refine hK _ _ ?_ | refine hK _ (nz ?_)); clear hK KK) | ((repeat refine And.intro (by first | omega | (rw [getD_map_lt (by omega)]; rfl) | (simp; first | done | omega)) ?_); first | (refine hK _ _ ?_; clear hK KK) | (refine hK _ ?_; clear hK KK; try simp only [upd_mk]))) | ((with_reducible first | refine o_nil (hT _ _ ?_) | refine h_nil (hT _ ?_)); clear hT KT) | ((first | refine gd fun AA BB hA hB => ?_ | refine tc fun AA BB hA hB => ?_); first | (refine go ?_; (first | refine hA ?_ | refine hB ?_); clear hA hB AA BB) | (refine go2 ?_ ?_ <;> intro hb <;> (first | refine hA ?_ | refine hB ?_) <;> clear hA hB AA BB <;> (try simp only [hb, decide_true, decide_false]) <;> (try (exfalso; first | (simp at hb; done) | (simp at hb; omega))))) | (with_reducible refine skS ?_; simp only [upd_mk]) | with_reducible refine tdr fun KT hT => ?_ | with_reducible refine bY ?_)
        refine f_rnd (k + 1, gs ++ [g]) (imp_keep ?_ ?_ rfl) ?_ ⟨h, by simp [hgs]⟩ (by simp only; omega)
        · simp [Keep, mk, wrapS (show k < 4611686018427387904 by omega)]
        · simp only [KeepT, mkT, if_true, and_true]
          rw [List.take_succ_eq_append_getElem h, rowsV_app hgk, List.append_assoc]
          rfl
        · rw [List.take_succ_eq_append_getElem h, nest_app hgk]
          rfl
      · obtain rfl : k = hs.length := by omega
        have e1 : decide ((hs.length : Int) < (hs.length : Int)) = false := by simp
        refine f_seq ?_
        (have fx := (@e1)
         repeat' (first | with_reducible refine go ?_ | with_reducible refine t_region fun KT hT => ?_ | (refine gp fun KK hK => ?_; first | (refine ⟨by first | exact eq_hop | exact eq_pol, ?_⟩; (first | refine hK _ _ ?_ | refine hK _ (nz ?_)); clear hK KK) | ((repeat refine And.intro (by first | omega | (rw [getD_map_lt (by omega)]; rfl) | (simp; first | done | omega)) ?_); first | (refine hK _ _ ?_; clear hK KK) | (refine hK _ ?_; clear hK KK; try simp only [upd_mk]))) | ((with_reducible first | refine o_nil (hT _ _ ?_) | refine h_nil (hT _ ?_)); clear hT KT) | ((first | refine gd fun AA BB hA hB => ?_ | refine tc fun AA BB hA hB => ?_); first | (refine go ?_; (first | refine hA ?_ | refine hB ?_); clear hA hB AA BB) | (refine go2 ?_ ?_ <;> intro hb <;> (first | refine hA ?_ | refine hB ?_) <;> clear hA hB AA BB <;> (try simp only [hb, decide_true, decide_false]) <;> (try (exfalso; first | (simp at hb; done) | (simp at hb; omega))))) | (with_reducible refine skS ?_; simp only [upd_mk]) | with_reducible refine tdr fun KT hT => ?_ | with_reducible refine bY ?_)
         all_goals clear fx)
        refine f_thenX (f_rndX (f_blkX (f_then (f_seq ?_))))
        (have fx := (@e1)
         repeat' (first | with_reducible refine go ?_ | with_reducible refine t_region fun KT hT => ?_ | (refine gp fun KK hK => ?_; first | (refine ⟨by first | exact eq_hop | exact eq_pol, ?_⟩; (first | refine hK _ _ ?_ | refine hK _ (nz ?_)); clear hK KK) | ((repeat refine And.intro (by first | omega | (rw [getD_map_lt (by omega)]; rfl) | (simp; first | done | omega)) ?_); first | (refine hK _ _ ?_; clear hK KK) | (refine hK _ ?_; clear hK KK; try simp only [upd_mk]))) | ((with_reducible first | refine o_nil (hT _ _ ?_) | refine h_nil (hT _ ?_)); clear hT KT) | ((first | refine gd fun AA BB hA hB => ?_ | refine tc fun AA BB hA hB => ?_); first | (refine go ?_; (first | refine hA ?_ | refine hB ?_); clear hA hB AA BB) | (refine go2 ?_ ?_ <;> intro hb <;> (first | refine hA ?_ | refine hB ?_) <;> clear hA hB AA BB <;> (try simp only [hb, decide_true, decide_false]) <;> (try (exfalso; first | (simp at hb; done) | (simp at hb; omega))))) | (with_reducible refine skS ?_; simp only [upd_mk]) | with_reducible refine tdr fun KT hT => ?_ | with_reducible refine bY ?_)
         all_goals clear fx)
        refine f_then (TrF.ret (fin_f ?_))
        simp only [resQ, packD, mk_cons, Nat.reduceEqDiff, reduceIte]
        rw [List.take_length] at *
        refine ⟨7, rowsV gs hs, rfl, ?_, rowsV_flat _ _, gs, hgs, rfl, rfl⟩
        simp [mkT]
  · rintro S r ⟨g, rows, S0, rfl, rfl, gs, h1, rfl, rfl⟩
    exact ⟨g, gs, h1, rfl, by rw [rowsV_len h1]⟩

end Go.Proofs.Ytmiclkgkfkcnoaa
