/- The functions of this program, walked by the evaluator: part v, 2. -/
import Derived.Test.YtgdldeggoflabaaGreatLv1
namespace Go.Proofs.YtgdldeggoflabaaGreat
open Go.RowKit
set_option linter.unusedSimpArgs false
set_option linter.unusedVariables false
set_option maxRecDepth 100000
set_option linter.defProp false
namespace GLv2
def gx := And.intro (@hopRow.eq_1) (And.intro (@polRow.eq_1) (And.intro (@segRow.eq_1) (And.intro (@intRow.eq_1) (And.intro (@rowLen_ints) (And.intro (@rowLen_nil) (And.intro (@rowLen_cons) (And.intro (@rowLen_append) (And.intro (@lenL_app) (And.intro (@byteRow.eq_1) (And.intro (@rowLen_bytes) (And.intro (@bytesOf_map) (And.intro (@bytesOf_cons) (And.intro (@bytesOf_one) (And.intro (@rowLen_strs) (And.intro (@asRow.eq_1) (And.intro (@lkRow.eq_1) (And.intro (@tpRow.eq_1) (And.intro (@rowLen_hops) (And.intro (@rowLen_ases) (And.intro (@rowLen_links) (And.intro (@bcRow.eq_1) (And.intro (@rowLen_bcs) (@u8Row.eq_1)))))))))))))))))))))))
end GLv2
open GLv2
set_option maxHeartbeats 8000000 in
theorem ext_s (t : Tp) (p : Pl) (s : Sg) (r inn out : Int) (h1 : t.ases.length ≤ 1048576) (h2 : t.links.length ≤ 1048576) (hl : s.hops.length ≤ 1048576) : ACall Tryz.prog 20 [.agg (tpRow t), .agg (polRow p), .agg (segRow s), .int .i64 r, .int .i64 inn, .int .i64 out] (.tup [.agg [.int .i64 s.ts, .int .i64 s.beta, .fs 0], .bool (extOk t p s r inn out)]) [(extHops t p s r inn out (extOk t p s r inn out)).map hopRow] := by
  have cc := copySeg_s s hl
  have cx := canExt_s t s r inn h1 h2 hl
  have cal := allows_s p s out hl
  have ck := ifKind_s t r out h2
  have cs := segKind_s t s h1 h2 hl
  rcases Bool.eq_false_or_eq_true (canExt t s r inn) with b1 | b1
  · rcases Bool.eq_false_or_eq_true (inR out 1 6) with b2 | b2
    · rcases Bool.eq_false_or_eq_true (out == inn) with b3 | b3
      · have hk : extOk t p s r inn out = false := by rw [extOk, b1, b2, b3]; rfl
        rw [hk]
        simp only [extHops, Bool.false_eq_true, if_false]
        refine acall_mk Tryz.func20 rfl Tryz.ntmps20 Tryz.results20 (by kernel_rfl) (by simp) ?_
        simp only [args, Nat.zero_add, Nat.reduceAdd]
        (have fx := And.intro (@b1) (And.intro (@b2) (@b3))
         repeat' (first | with_reducible refine go ?_ | with_reducible refine t_region fun KT hT => ?_ | (refine gp fun KK hK => ?_; first | (refine hK _ _ ?_; clear hK KK) | (refine hK _ ?_; clear hK KK; try simp only [upd_mk]) | ((with_reducible first | refine .inl ⟨_, _, ⟨cx, rfl, csq⟩, hK _ _ (nz ?_)⟩ | refine .inl ⟨_, _, ⟨l1In_s _ _ _, rfl, csq⟩, hK _ _ (nz ?_)⟩ | refine .inl ⟨_, _, ⟨cc, rfl, csq⟩, hK _ _ (nz ?_)⟩ | refine ⟨_, ⟨cx, rfl, rfl, csq⟩, hK _ (nz ?_)⟩ | refine ⟨_, ⟨l1In_s _ _ _, rfl, rfl, csq⟩, hK _ (nz ?_)⟩ | refine ⟨_, ⟨cc, rfl, rfl, csq⟩, hK _ (nz ?_)⟩); clear hK KK) | (refine ⟨by first | exact eq_hop, hK _ _ ?_⟩; clear hK KK) | (refine ⟨by first | exact eq_hop, hK _ (nz ?_)⟩; clear hK KK) | ((repeat refine And.intro (by first | omega | (rw [getD_map_lt (by omega)]; rfl) | (simp; first | done | omega)) ?_); first | (refine hK _ _ ?_; clear hK KK) | (refine hK _ ?_; clear hK KK; try simp only [upd_mk]))) | ((with_reducible first | refine o_nil (hT _ _ ?_) | refine h_nil (hT _ ?_)); clear hT KT) | ((first | refine gd fun AA BB hA hB => ?_ | refine tc fun AA BB hA hB => ?_); first | (refine go ?_; (first | refine hA ?_ | refine hB ?_); clear hA hB AA BB) | (refine go2 ?_ ?_ <;> intro hb <;> (first | refine hA ?_ | refine hB ?_) <;> clear hA hB AA BB <;> (try simp only [hb, decide_true, decide_false]) <;> (try (exfalso; first | (simp at hb; done) | (simp at hb; omega))))) | (with_reducible refine skS ?_; simp only [upd_mk]) | with_reducible refine tdr fun KT hT => ?_ | with_reducible refine bY ?_)
         all_goals clear fx)
        (refine fo [1039] ?_; try exact trivial)
        exact ⟨rfl, rfl, by simp⟩
      · rcases Bool.eq_false_or_eq_true (allows p s out) with b4 | b4
        · have cg := grown_s t p s r inn out (canExt_realm b1) hl
          have hw : extOk t p s r inn out = (ifKind t r out == wantK t s) := by rw [extOk, b1, b2, b3, b4]; rfl
          rw [hw]
          generalize ifKind t r out = kd at *
          rcases segKind_cases (canExt_valid b1) with hs | hs
          all_goals rw [wantK, hs]
          all_goals rw [hs] at cs
          all_goals simp only [Int.reduceBEq, Bool.false_eq_true, if_false, if_true]
          · rcases Bool.eq_false_or_eq_true (kd == 1) with b5 | b5
            all_goals have n1 : (kd != 1) = !(kd == 1) := rfl
            all_goals rw [b5] at n1
            all_goals simp only [Bool.not_true, Bool.not_false] at n1
            all_goals rw [b5]
            · simp only [extHops, if_true]
              refine acall_mk Tryz.func20 rfl Tryz.ntmps20 Tryz.results20 (by kernel_rfl) (by simp) ?_
              simp only [args, Nat.zero_add, Nat.reduceAdd]
              (have fx := And.intro (@b1) (And.intro (@b2) (And.intro (@b3) (And.intro (@b4) (@n1))))
               repeat' (first | with_reducible refine go ?_ | with_reducible refine t_region fun KT hT => ?_ | (refine gp fun KK hK => ?_; first | (refine hK _ _ ?_; clear hK KK) | (refine hK _ ?_; clear hK KK; try simp only [upd_mk]) | ((with_reducible first | refine .inl ⟨_, _, ⟨cx, rfl, csq⟩, hK _ _ (nz ?_)⟩ | refine .inl ⟨_, _, ⟨l1In_s _ _ _, rfl, csq⟩, hK _ _ (nz ?_)⟩ | refine .inl ⟨_, _, ⟨cal, rfl, csq⟩, hK _ _ (nz ?_)⟩ | refine .inl ⟨_, _, ⟨cs, rfl, csq⟩, hK _ _ (nz ?_)⟩ | refine .inl ⟨_, _, ⟨ck, rfl, csq⟩, hK _ _ (nz ?_)⟩ | refine .inl ⟨_, _, ⟨cg, rfl, csq⟩, hK _ _ (nz ?_)⟩ | refine ⟨_, ⟨cx, rfl, rfl, csq⟩, hK _ (nz ?_)⟩ | refine ⟨_, ⟨l1In_s _ _ _, rfl, rfl, csq⟩, hK _ (nz ?_)⟩ | refine ⟨_, ⟨cal, rfl, rfl, csq⟩, hK _ (nz ?_)⟩ | refine ⟨_, ⟨cs, rfl, rfl, csq⟩, hK _ (nz ?_)⟩ | refine ⟨_, ⟨ck, rfl, rfl, csq⟩, hK _ (nz ?_)⟩ | refine ⟨_, ⟨cg, rfl, rfl, csq⟩, hK _ (nz ?_)⟩); clear hK KK) | (refine ⟨by first | exact eq_hop, hK _ _ ?_⟩; clear hK KK) | (refine ⟨by first | exact eq_hop, hK _ (nz ?_)⟩; clear hK KK) | ((repeat refine And.intro (by first | omega | (rw [getD_map_lt (by omega)]; rfl) | (simp; first | done | omega)) ?_); first | (refine hK _ _ ?_; clear hK KK) | (refine hK _ ?_; clear hK KK; try simp only [upd_mk]))) | ((with_reducible first | refine o_nil (hT _ _ ?_) | refine h_nil (hT _ ?_)); clear hT KT) | ((first | refine gd fun AA BB hA hB => ?_ | refine tc fun AA BB hA hB => ?_); first | (refine go ?_; (first | refine hA ?_ | refine hB ?_); clear hA hB AA BB) | (refine go2 ?_ ?_ <;> intro hb <;> (first | refine hA ?_ | refine hB ?_) <;> clear hA hB AA BB <;> (try simp only [hb, decide_true, decide_false]) <;> (try (exfalso; first | (simp at hb; done) | (simp at hb; omega))))) | (with_reducible refine skS ?_; simp only [upd_mk]) | with_reducible refine tdr fun KT hT => ?_ | with_reducible refine bY ?_)
               all_goals clear fx)
              (refine fo [1058] ?_; try exact trivial)
              exact ⟨rfl, rfl, by simp⟩
            · simp only [extHops, Bool.false_eq_true, if_false]
              refine acall_mk Tryz.func20 rfl Tryz.ntmps20 Tryz.results20 (by kernel_rfl) (by simp) ?_
              simp only [args, Nat.zero_add, Nat.reduceAdd]
              (have fx := And.intro (@b1) (And.intro (@b2) (And.intro (@b3) (And.intro (@b4) (@n1))))
               repeat' (first | with_reducible refine go ?_ | with_reducible refine t_region fun KT hT => ?_ | (refine gp fun KK hK => ?_; first | (refine hK _ _ ?_; clear hK KK) | (refine hK _ ?_; clear hK KK; try simp only [upd_mk]) | ((with_reducible first | refine .inl ⟨_, _, ⟨cx, rfl, csq⟩, hK _ _ (nz ?_)⟩ | refine .inl ⟨_, _, ⟨l1In_s _ _ _, rfl, csq⟩, hK _ _ (nz ?_)⟩ | refine .inl ⟨_, _, ⟨cal, rfl, csq⟩, hK _ _ (nz ?_)⟩ | refine .inl ⟨_, _, ⟨cs, rfl, csq⟩, hK _ _ (nz ?_)⟩ | refine .inl ⟨_, _, ⟨ck, rfl, csq⟩, hK _ _ (nz ?_)⟩ | refine .inl ⟨_, _, ⟨cc, rfl, csq⟩, hK _ _ (nz ?_)⟩ | refine ⟨_, ⟨cx, rfl, rfl, csq⟩, hK _ (nz ?_)⟩ | refine ⟨_, ⟨l1In_s _ _ _, rfl, rfl, csq⟩, hK _ (nz ?_)⟩ | refine ⟨_, ⟨cal, rfl, rfl, csq⟩, hK _ (nz ?_)⟩ | refine ⟨_, ⟨cs, rfl, rfl, csq⟩, hK _ (nz ?_)⟩ | refine ⟨_, ⟨ck, rfl, rfl, csq⟩, hK _ (nz ?_)⟩ | refine ⟨_, ⟨cc, rfl, rfl, csq⟩, hK _ (nz ?_)⟩); clear hK KK) | (refine ⟨by first | exact eq_hop, hK _ _ ?_⟩; clear hK KK) | (refine ⟨by first | exact eq_hop, hK _ (nz ?_)⟩; clear hK KK) | ((repeat refine And.intro (by first | omega | (rw [getD_map_lt (by omega)]; rfl) | (simp; first | done | omega)) ?_); first | (refine hK _ _ ?_; clear hK KK) | (refine hK _ ?_; clear hK KK; try simp only [upd_mk]))) | ((with_reducible first | refine o_nil (hT _ _ ?_) | refine h_nil (hT _ ?_)); clear hT KT) | ((first | refine gd fun AA BB hA hB => ?_ | refine tc fun AA BB hA hB => ?_); first | (refine go ?_; (first | refine hA ?_ | refine hB ?_); clear hA hB AA BB) | (refine go2 ?_ ?_ <;> intro hb <;> (first | refine hA ?_ | refine hB ?_) <;> clear hA hB AA BB <;> (try simp only [hb, decide_true, decide_false]) <;> (try (exfalso; first | (simp at hb; done) | (simp at hb; omega))))) | (with_reducible refine skS ?_; simp only [upd_mk]) | with_reducible refine tdr fun KT hT => ?_ | with_reducible refine bY ?_)
               all_goals clear fx)
              (refine fo [1051] ?_; try exact trivial)
              exact ⟨rfl, rfl, by simp⟩
          · rcases Bool.eq_false_or_eq_true (kd == 2) with b5 | b5
            all_goals have n1 : (kd != 2) = !(kd == 2) := rfl
            all_goals rw [b5] at n1
            all_goals simp only [Bool.not_true, Bool.not_false] at n1
            all_goals rw [b5]
            · simp only [extHops, if_true]
              refine acall_mk Tryz.func20 rfl Tryz.ntmps20 Tryz.results20 (by kernel_rfl) (by simp) ?_
              simp only [args, Nat.zero_add, Nat.reduceAdd]
              (have fx := And.intro (@b1) (And.intro (@b2) (And.intro (@b3) (And.intro (@b4) (@n1))))
               repeat' (first | with_reducible refine go ?_ | with_reducible refine t_region fun KT hT => ?_ | (refine gp fun KK hK => ?_; first | (refine hK _ _ ?_; clear hK KK) | (refine hK _ ?_; clear hK KK; try simp only [upd_mk]) | ((with_reducible first | refine .inl ⟨_, _, ⟨cx, rfl, csq⟩, hK _ _ (nz ?_)⟩ | refine .inl ⟨_, _, ⟨l1In_s _ _ _, rfl, csq⟩, hK _ _ (nz ?_)⟩ | refine .inl ⟨_, _, ⟨cal, rfl, csq⟩, hK _ _ (nz ?_)⟩ | refine .inl ⟨_, _, ⟨cs, rfl, csq⟩, hK _ _ (nz ?_)⟩ | refine .inl ⟨_, _, ⟨ck, rfl, csq⟩, hK _ _ (nz ?_)⟩ | refine .inl ⟨_, _, ⟨cg, rfl, csq⟩, hK _ _ (nz ?_)⟩ | refine ⟨_, ⟨cx, rfl, rfl, csq⟩, hK _ (nz ?_)⟩ | refine ⟨_, ⟨l1In_s _ _ _, rfl, rfl, csq⟩, hK _ (nz ?_)⟩ | refine ⟨_, ⟨cal, rfl, rfl, csq⟩, hK _ (nz ?_)⟩ | refine ⟨_, ⟨cs, rfl, rfl, csq⟩, hK _ (nz ?_)⟩ | refine ⟨_, ⟨ck, rfl, rfl, csq⟩, hK _ (nz ?_)⟩ | refine ⟨_, ⟨cg, rfl, rfl, csq⟩, hK _ (nz ?_)⟩); clear hK KK) | (refine ⟨by first | exact eq_hop, hK _ _ ?_⟩; clear hK KK) | (refine ⟨by first | exact eq_hop, hK _ (nz ?_)⟩; clear hK KK) | ((repeat refine And.intro (by first | omega | (rw [getD_map_lt (by omega)]; rfl) | (simp; first | done | omega)) ?_); first | (refine hK _ _ ?_; clear hK KK) | (refine hK _ ?_; clear hK KK; try simp only [upd_mk]))) | ((with_reducible first | refine o_nil (hT _ _ ?_) | refine h_nil (hT _ ?_)); clear hT KT) | ((first | refine gd fun AA BB hA hB => ?_ | refine tc fun AA BB hA hB => ?_); first | (refine go ?_; (first | refine hA ?_ | refine hB ?_); clear hA hB AA BB) | (refine go2 ?_ ?_ <;> intro hb <;> (first | refine hA ?_ | refine hB ?_) <;> clear hA hB AA BB <;> (try simp only [hb, decide_true, decide_false]) <;> (try (exfalso; first | (simp at hb; done) | (simp at hb; omega))))) | (with_reducible refine skS ?_; simp only [upd_mk]) | with_reducible refine tdr fun KT hT => ?_ | with_reducible refine bY ?_)
               all_goals clear fx)
              (refine fo [1058] ?_; try exact trivial)
              exact ⟨rfl, rfl, by simp⟩
            · simp only [extHops, Bool.false_eq_true, if_false]
              refine acall_mk Tryz.func20 rfl Tryz.ntmps20 Tryz.results20 (by kernel_rfl) (by simp) ?_
              simp only [args, Nat.zero_add, Nat.reduceAdd]
              (have fx := And.intro (@b1) (And.intro (@b2) (And.intro (@b3) (And.intro (@b4) (@n1))))
               repeat' (first | with_reducible refine go ?_ | with_reducible refine t_region fun KT hT => ?_ | (refine gp fun KK hK => ?_; first | (refine hK _ _ ?_; clear hK KK) | (refine hK _ ?_; clear hK KK; try simp only [upd_mk]) | ((with_reducible first | refine .inl ⟨_, _, ⟨cx, rfl, csq⟩, hK _ _ (nz ?_)⟩ | refine .inl ⟨_, _, ⟨l1In_s _ _ _, rfl, csq⟩, hK _ _ (nz ?_)⟩ | refine .inl ⟨_, _, ⟨cal, rfl, csq⟩, hK _ _ (nz ?_)⟩ | refine .inl ⟨_, _, ⟨cs, rfl, csq⟩, hK _ _ (nz ?_)⟩ | refine .inl ⟨_, _, ⟨ck, rfl, csq⟩, hK _ _ (nz ?_)⟩ | refine .inl ⟨_, _, ⟨cc, rfl, csq⟩, hK _ _ (nz ?_)⟩ | refine ⟨_, ⟨cx, rfl, rfl, csq⟩, hK _ (nz ?_)⟩ | refine ⟨_, ⟨l1In_s _ _ _, rfl, rfl, csq⟩, hK _ (nz ?_)⟩ | refine ⟨_, ⟨cal, rfl, rfl, csq⟩, hK _ (nz ?_)⟩ | refine ⟨_, ⟨cs, rfl, rfl, csq⟩, hK _ (nz ?_)⟩ | refine ⟨_, ⟨ck, rfl, rfl, csq⟩, hK _ (nz ?_)⟩ | refine ⟨_, ⟨cc, rfl, rfl, csq⟩, hK _ (nz ?_)⟩); clear hK KK) | (refine ⟨by first | exact eq_hop, hK _ _ ?_⟩; clear hK KK) | (refine ⟨by first | exact eq_hop, hK _ (nz ?_)⟩; clear hK KK) | ((repeat refine And.intro (by first | omega | (rw [getD_map_lt (by omega)]; rfl) | (simp; first | done | omega)) ?_); first | (refine hK _ _ ?_; clear hK KK) | (refine hK _ ?_; clear hK KK; try simp only [upd_mk]))) | ((with_reducible first | refine o_nil (hT _ _ ?_) | refine h_nil (hT _ ?_)); clear hT KT) | ((first | refine gd fun AA BB hA hB => ?_ | refine tc fun AA BB hA hB => ?_); first | (refine go ?_; (first | refine hA ?_ | refine hB ?_); clear hA hB AA BB) | (refine go2 ?_ ?_ <;> intro hb <;> (first | refine hA ?_ | refine hB ?_) <;> clear hA hB AA BB <;> (try simp only [hb, decide_true, decide_false]) <;> (try (exfalso; first | (simp at hb; done) | (simp at hb; omega))))) | (with_reducible refine skS ?_; simp only [upd_mk]) | with_reducible refine tdr fun KT hT => ?_ | with_reducible refine bY ?_)
               all_goals clear fx)
              (refine fo [1051] ?_; try exact trivial)
              exact ⟨rfl, rfl, by simp⟩
        · have hk : extOk t p s r inn out = false := by rw [extOk, b1, b2, b3, b4]; rfl
          rw [hk]
          simp only [extHops, Bool.false_eq_true, if_false]
          refine acall_mk Tryz.func20 rfl Tryz.ntmps20 Tryz.results20 (by kernel_rfl) (by simp) ?_
          simp only [args, Nat.zero_add, Nat.reduceAdd]
          (have fx := And.intro (@b1) (And.intro (@b2) (And.intro (@b3) (@b4)))
           repeat' (first | with_reducible refine go ?_ | with_reducible refine t_region fun KT hT => ?_ | (refine gp fun KK hK => ?_; first | (refine hK _ _ ?_; clear hK KK) | (refine hK _ ?_; clear hK KK; try simp only [upd_mk]) | ((with_reducible first | refine .inl ⟨_, _, ⟨cx, rfl, csq⟩, hK _ _ (nz ?_)⟩ | refine .inl ⟨_, _, ⟨l1In_s _ _ _, rfl, csq⟩, hK _ _ (nz ?_)⟩ | refine .inl ⟨_, _, ⟨cal, rfl, csq⟩, hK _ _ (nz ?_)⟩ | refine .inl ⟨_, _, ⟨cc, rfl, csq⟩, hK _ _ (nz ?_)⟩ | refine ⟨_, ⟨cx, rfl, rfl, csq⟩, hK _ (nz ?_)⟩ | refine ⟨_, ⟨l1In_s _ _ _, rfl, rfl, csq⟩, hK _ (nz ?_)⟩ | refine ⟨_, ⟨cal, rfl, rfl, csq⟩, hK _ (nz ?_)⟩ | refine ⟨_, ⟨cc, rfl, rfl, csq⟩, hK _ (nz ?_)⟩); clear hK KK) | (refine ⟨by first | exact eq_hop, hK _ _ ?_⟩; clear hK KK) | (refine ⟨by first | exact eq_hop, hK _ (nz ?_)⟩; clear hK KK) | ((repeat refine And.intro (by first | omega | (rw [getD_map_lt (by omega)]; rfl) | (simp; first | done | omega)) ?_); first | (refine hK _ _ ?_; clear hK KK) | (refine hK _ ?_; clear hK KK; try simp only [upd_mk]))) | ((with_reducible first | refine o_nil (hT _ _ ?_) | refine h_nil (hT _ ?_)); clear hT KT) | ((first | refine gd fun AA BB hA hB => ?_ | refine tc fun AA BB hA hB => ?_); first | (refine go ?_; (first | refine hA ?_ | refine hB ?_); clear hA hB AA BB) | (refine go2 ?_ ?_ <;> intro hb <;> (first | refine hA ?_ | refine hB ?_) <;> clear hA hB AA BB <;> (try simp only [hb, decide_true, decide_false]) <;> (try (exfalso; first | (simp at hb; done) | (simp at hb; omega))))) | (with_reducible refine skS ?_; simp only [upd_mk]) | with_reducible refine tdr fun KT hT => ?_ | with_reducible refine bY ?_)
           all_goals clear fx)
          (refine fo [1039] ?_; try exact trivial)
          exact ⟨rfl, rfl, by simp⟩
    · have hk : extOk t p s r inn out = false := by rw [extOk, b1, b2]; rfl
      rw [hk]
      simp only [extHops, Bool.false_eq_true, if_false]
      refine acall_mk Tryz.func20 rfl Tryz.ntmps20 Tryz.results20 (by kernel_rfl) (by simp) ?_
      simp only [args, Nat.zero_add, Nat.reduceAdd]
      (have fx := And.intro (@b1) (@b2)
       repeat' (first | with_reducible refine go ?_ | with_reducible refine t_region fun KT hT => ?_ | (refine gp fun KK hK => ?_; first | (refine hK _ _ ?_; clear hK KK) | (refine hK _ ?_; clear hK KK; try simp only [upd_mk]) | ((with_reducible first | refine .inl ⟨_, _, ⟨cx, rfl, csq⟩, hK _ _ (nz ?_)⟩ | refine .inl ⟨_, _, ⟨l1In_s _ _ _, rfl, csq⟩, hK _ _ (nz ?_)⟩ | refine .inl ⟨_, _, ⟨cc, rfl, csq⟩, hK _ _ (nz ?_)⟩ | refine ⟨_, ⟨cx, rfl, rfl, csq⟩, hK _ (nz ?_)⟩ | refine ⟨_, ⟨l1In_s _ _ _, rfl, rfl, csq⟩, hK _ (nz ?_)⟩ | refine ⟨_, ⟨cc, rfl, rfl, csq⟩, hK _ (nz ?_)⟩); clear hK KK) | (refine ⟨by first | exact eq_hop, hK _ _ ?_⟩; clear hK KK) | (refine ⟨by first | exact eq_hop, hK _ (nz ?_)⟩; clear hK KK) | ((repeat refine And.intro (by first | omega | (rw [getD_map_lt (by omega)]; rfl) | (simp; first | done | omega)) ?_); first | (refine hK _ _ ?_; clear hK KK) | (refine hK _ ?_; clear hK KK; try simp only [upd_mk]))) | ((with_reducible first | refine o_nil (hT _ _ ?_) | refine h_nil (hT _ ?_)); clear hT KT) | ((first | refine gd fun AA BB hA hB => ?_ | refine tc fun AA BB hA hB => ?_); first | (refine go ?_; (first | refine hA ?_ | refine hB ?_); clear hA hB AA BB) | (refine go2 ?_ ?_ <;> intro hb <;> (first | refine hA ?_ | refine hB ?_) <;> clear hA hB AA BB <;> (try simp only [hb, decide_true, decide_false]) <;> (try (exfalso; first | (simp at hb; done) | (simp at hb; omega))))) | (with_reducible refine skS ?_; simp only [upd_mk]) | with_reducible refine tdr fun KT hT => ?_ | with_reducible refine bY ?_)
       all_goals clear fx)
      (refine fo [1039] ?_; try exact trivial)
      exact ⟨rfl, rfl, by simp⟩
  · have hk : extOk t p s r inn out = false := by rw [extOk, b1]; rfl
    rw [hk]
    simp only [extHops, Bool.false_eq_true, if_false]
    refine acall_mk Tryz.func20 rfl Tryz.ntmps20 Tryz.results20 (by kernel_rfl) (by simp) ?_
    simp only [args, Nat.zero_add, Nat.reduceAdd]
    (have fx := (@b1)
     repeat' (first | with_reducible refine go ?_ | with_reducible refine t_region fun KT hT => ?_ | (refine gp fun KK hK => ?_; first | (refine hK _ _ ?_; clear hK KK) | (refine hK _ ?_; clear hK KK; try simp only [upd_mk]) | ((with_reducible first | refine .inl ⟨_, _, ⟨cx, rfl, csq⟩, hK _ _ (nz ?_)⟩ | refine .inl ⟨_, _, ⟨cc, rfl, csq⟩, hK _ _ (nz ?_)⟩ | refine ⟨_, ⟨cx, rfl, rfl, csq⟩, hK _ (nz ?_)⟩ | refine ⟨_, ⟨cc, rfl, rfl, csq⟩, hK _ (nz ?_)⟩); clear hK KK) | (refine ⟨by first | exact eq_hop, hK _ _ ?_⟩; clear hK KK) | (refine ⟨by first | exact eq_hop, hK _ (nz ?_)⟩; clear hK KK) | ((repeat refine And.intro (by first | omega | (rw [getD_map_lt (by omega)]; rfl) | (simp; first | done | omega)) ?_); first | (refine hK _ _ ?_; clear hK KK) | (refine hK _ ?_; clear hK KK; try simp only [upd_mk]))) | ((with_reducible first | refine o_nil (hT _ _ ?_) | refine h_nil (hT _ ?_)); clear hT KT) | ((first | refine gd fun AA BB hA hB => ?_ | refine tc fun AA BB hA hB => ?_); first | (refine go ?_; (first | refine hA ?_ | refine hB ?_); clear hA hB AA BB) | (refine go2 ?_ ?_ <;> intro hb <;> (first | refine hA ?_ | refine hB ?_) <;> clear hA hB AA BB <;> (try simp only [hb, decide_true, decide_false]) <;> (try (exfalso; first | (simp at hb; done) | (simp at hb; omega))))) | (with_reducible refine skS ?_; simp only [upd_mk]) | with_reducible refine tdr fun KT hT => ?_ | with_reducible refine bY ?_)
     all_goals clear fx)
    (refine fo [1039] ?_; try exact trivial)
    exact ⟨rfl, rfl, by simp⟩

theorem eqHopS_ok2 (hs gs : List Hp) (hl : hs.length ≤ 4294967296) : ACall Tryz.prog 39 [.sl (hs.map hopRow), .sl (gs.map hopRow)] (.bool (decide (hs = gs))) [] := by
  refine acall_mk Tryz.func39 rfl Tryz.ntmps39 Tryz.results39 (by kernel_rfl) (by simp) ?_
  simp only [args, Nat.zero_add, Nat.reduceAdd]
  repeat' (first | with_reducible refine go ?_ | with_reducible refine t_region fun KT hT => ?_ | (refine gp fun KK hK => ?_; first | (refine hK _ _ ?_; clear hK KK) | (refine hK _ ?_; clear hK KK; try simp only [upd_mk]) | (refine ⟨by first | exact eq_hop, hK _ _ ?_⟩; clear hK KK) | (refine ⟨by first | exact eq_hop, hK _ (nz ?_)⟩; clear hK KK) | ((repeat refine And.intro (by first | omega | (rw [getD_map_lt (by omega)]; rfl) | (simp; first | done | omega)) ?_); first | (refine hK _ _ ?_; clear hK KK) | (refine hK _ ?_; clear hK KK; try simp only [upd_mk]))) | ((with_reducible first | refine o_nil (hT _ _ ?_) | refine h_nil (hT _ ?_)); clear hT KT) | ((first | refine gd fun AA BB hA hB => ?_ | refine tc fun AA BB hA hB => ?_); first | (refine go ?_; (first | refine hA ?_ | refine hB ?_); clear hA hB AA BB) | (refine go2 ?_ ?_ <;> intro hb <;> (first | refine hA ?_ | refine hB ?_) <;> clear hA hB AA BB <;> (try simp only [hb, decide_true, decide_false]) <;> (try (exfalso; first | (simp at hb; done) | (simp at hb; omega))))) | (with_reducible refine skS ?_; simp only [upd_mk]) | with_reducible refine tdr fun KT hT => ?_ | with_reducible refine bY ?_)
  · (refine fe ?_; try exact trivial)
    have : hs ≠ gs := by rintro rfl; simp at hb
    simp [this]
  · have hlen : gs.length = hs.length := by simp at hb; omega
    refine t_loop (fun k : Nat => [(0, .sl (hs.map hopRow)), (1, .sl (gs.map hopRow)), (5, .int .i64 k)]) (fun _ => []) (fun k => k ≤ hs.length ∧ hs.take k = gs.take k) (fun k => hs.length - k) 0 (imp_keep (by simp [Keep, mk]) trivial rfl) ⟨Nat.zero_le _, by simp⟩ ?_
    rintro k ⟨hk, ht⟩
    rcases Nat.lt_or_ge k hs.length with h | h
    · have h' : k < gs.length := by omega
      have e1 : decide ((k : Int) < (hs.length : Int)) = true := by simpa using h
      have e2 := getD_map_lt (f := hopRow) h
      have e3 := getD_map_lt (f := hopRow) h'
      (have fx := And.intro (@e1) (And.intro (@e2) (And.intro (@e3) (And.intro (@h) (@h'))))
       repeat' (first | with_reducible refine go ?_ | with_reducible refine t_region fun KT hT => ?_ | (refine gp fun KK hK => ?_; first | (refine hK _ _ ?_; clear hK KK) | (refine hK _ ?_; clear hK KK; try simp only [upd_mk]) | ((with_reducible first | refine .inl ⟨_, _, ⟨eqHop_ok hs[k] gs[k], rfl, csq⟩, hK _ _ (nz ?_)⟩ | refine ⟨_, ⟨eqHop_ok hs[k] gs[k], rfl, rfl, csq⟩, hK _ (nz ?_)⟩); clear hK KK) | (refine ⟨by first | exact eq_hop, hK _ _ ?_⟩; clear hK KK) | (refine ⟨by first | exact eq_hop, hK _ (nz ?_)⟩; clear hK KK) | ((repeat refine And.intro (by first | omega | (rw [getD_map_lt (by omega)]; rfl) | (simp; first | done | omega)) ?_); first | (refine hK _ _ ?_; clear hK KK) | (refine hK _ ?_; clear hK KK; try simp only [upd_mk]))) | ((with_reducible first | refine o_nil (hT _ _ ?_) | refine h_nil (hT _ ?_)); clear hT KT) | ((first | refine gd fun AA BB hA hB => ?_ | refine tc fun AA BB hA hB => ?_); first | (refine go ?_; (first | refine hA ?_ | refine hB ?_); clear hA hB AA BB) | (refine go2 ?_ ?_ <;> intro hb <;> (first | refine hA ?_ | refine hB ?_) <;> clear hA hB AA BB <;> (try simp only [hb, decide_true, decide_false]) <;> (try (exfalso; first | (simp at hb; done) | (simp at hb; omega))))) | (with_reducible refine skS ?_; simp only [upd_mk]) | with_reducible refine tdr fun KT hT => ?_ | with_reducible refine bY ?_)
       all_goals clear fx)
      · (refine fe ?_; try exact trivial)
        have : hs ≠ gs := by rintro rfl; simp at hb
        simp [this]
      · refine k_rnd (k + 1) (imp_keep ?_ trivial rfl) ⟨h, ?_⟩ (by omega)
        · simp [Keep, mk, wrapS (show k < 4611686018427387904 by omega)]
        · exact take_step h h' ht (by simpa using hb)
    · have e1 : decide ((k : Int) < (hs.length : Int)) = false := by simpa using h
      (have fx := (@e1)
       repeat' (first | with_reducible refine go ?_ | with_reducible refine t_region fun KT hT => ?_ | (refine gp fun KK hK => ?_; first | (refine hK _ _ ?_; clear hK KK) | (refine hK _ ?_; clear hK KK; try simp only [upd_mk]) | (refine ⟨by first | exact eq_hop, hK _ _ ?_⟩; clear hK KK) | (refine ⟨by first | exact eq_hop, hK _ (nz ?_)⟩; clear hK KK) | ((repeat refine And.intro (by first | omega | (rw [getD_map_lt (by omega)]; rfl) | (simp; first | done | omega)) ?_); first | (refine hK _ _ ?_; clear hK KK) | (refine hK _ ?_; clear hK KK; try simp only [upd_mk]))) | ((with_reducible first | refine o_nil (hT _ _ ?_) | refine h_nil (hT _ ?_)); clear hT KT) | ((first | refine gd fun AA BB hA hB => ?_ | refine tc fun AA BB hA hB => ?_); first | (refine go ?_; (first | refine hA ?_ | refine hB ?_); clear hA hB AA BB) | (refine go2 ?_ ?_ <;> intro hb <;> (first | refine hA ?_ | refine hB ?_) <;> clear hA hB AA BB <;> (try simp only [hb, decide_true, decide_false]) <;> (try (exfalso; first | (simp at hb; done) | (simp at hb; omega))))) | (with_reducible refine skS ?_; simp only [upd_mk]) | with_reducible refine tdr fun KT hT => ?_ | with_reducible refine bY ?_)
       all_goals clear fx)
      (refine fe ?_; try exact trivial)
      have : hs = gs := by rw [List.take_of_length_le (by omega), List.take_of_length_le (by omega)] at ht; exact ht
      simp [this]

theorem eqSegment_ok2 (s t : Sg) (hl : s.hops.length ≤ 4294967296) : ACall Tryz.prog 15 [.agg (segRow s), .agg (segRow t)] (.bool (decide (s = t))) [] := by
  refine acall_mk Tryz.func15 rfl Tryz.ntmps15 Tryz.results15 (by kernel_rfl) (by simp) ?_
  simp only [args, Nat.zero_add, Nat.reduceAdd]
  repeat' (first | with_reducible refine go ?_ | with_reducible refine t_region fun KT hT => ?_ | (refine gp fun KK hK => ?_; first | (refine hK _ _ ?_; clear hK KK) | (refine hK _ ?_; clear hK KK; try simp only [upd_mk]) | ((with_reducible first | refine .inl ⟨_, _, ⟨eqHopS_ok2 _ _ hl, rfl, csq⟩, hK _ _ (nz ?_)⟩ | refine ⟨_, ⟨eqHopS_ok2 _ _ hl, rfl, rfl, csq⟩, hK _ (nz ?_)⟩); clear hK KK) | (refine ⟨by first | exact eq_hop, hK _ _ ?_⟩; clear hK KK) | (refine ⟨by first | exact eq_hop, hK _ (nz ?_)⟩; clear hK KK) | ((repeat refine And.intro (by first | omega | (rw [getD_map_lt (by omega)]; rfl) | (simp; first | done | omega)) ?_); first | (refine hK _ _ ?_; clear hK KK) | (refine hK _ ?_; clear hK KK; try simp only [upd_mk]))) | ((with_reducible first | refine o_nil (hT _ _ ?_) | refine h_nil (hT _ ?_)); clear hT KT) | ((first | refine gd fun AA BB hA hB => ?_ | refine tc fun AA BB hA hB => ?_); first | (refine go ?_; (first | refine hA ?_ | refine hB ?_); clear hA hB AA BB) | (refine go2 ?_ ?_ <;> intro hb <;> (first | refine hA ?_ | refine hB ?_) <;> clear hA hB AA BB <;> (try simp only [hb, decide_true, decide_false]) <;> (try (exfalso; first | (simp at hb; done) | (simp at hb; omega))))) | (with_reducible refine skS ?_; simp only [upd_mk]) | with_reducible refine tdr fun KT hT => ?_ | with_reducible refine bY ?_)
  all_goals (refine fe ?_; try exact trivial)
  all_goals (cases s; cases t; simp_all)

end Go.Proofs.YtgdldeggoflabaaGreat
