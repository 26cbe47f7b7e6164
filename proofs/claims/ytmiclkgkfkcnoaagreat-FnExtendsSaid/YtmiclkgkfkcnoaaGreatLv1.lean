/- The functions of this program, walked by the evaluator: part v, 1. -/
import Derived.Test.YtmiclkgkfkcnoaaGreatLi2
import Derived.Test.YtmiclkgkfkcnoaaGreatLn2
import Derived.Test.YtmiclkgkfkcnoaaGreatLt1
import Derived.Test.YtmiclkgkfkcnoaaGreatLD
namespace Go.Proofs.YtmiclkgkfkcnoaaGreat
open Go.RowKit
set_option linter.unusedSimpArgs false
set_option linter.unusedVariables false
set_option maxRecDepth 100000
set_option linter.defProp false
namespace GLv1
def gx := And.intro (@hopRow.eq_1) (And.intro (@polRow.eq_1) (And.intro (@segRow.eq_1) (And.intro (@intRow.eq_1) (And.intro (@rowLen_ints) (And.intro (@rowLen_nil) (And.intro (@rowLen_cons) (And.intro (@rowLen_append) (And.intro (@lenL_app) (And.intro (@byteRow.eq_1) (And.intro (@rowLen_bytes) (And.intro (@bytesOf_map) (And.intro (@bytesOf_cons) (And.intro (@bytesOf_one) (And.intro (@rowLen_strs) (And.intro (@asRow.eq_1) (And.intro (@lkRow.eq_1) (And.intro (@tpRow.eq_1) (And.intro (@rowLen_hops) (And.intro (@rowLen_ases) (And.intro (@rowLen_links) (And.intro (@bcRow.eq_1) (And.intro (@rowLen_bcs) (@u8Row.eq_1)))))))))))))))))))))))
end GLv1
open GLv1
theorem copySeg_s (s : Sg) (hl : s.hops.length ≤ 1048576) : ACall Tryz.prog 33 [.agg (segRow s)] (.agg [.int .i64 s.ts, .int .i64 s.beta, .fs 0]) [s.hops.map hopRow] := by
  refine acall_mk Tryz.func33 rfl Tryz.ntmps33 Tryz.results33 (by kernel_rfl) (by simp) ?_
  simp only [args, Nat.zero_add, Nat.reduceAdd]
  (have fx := (@rowLen_hops)
   repeat' (first | with_reducible refine go ?_ | with_reducible refine t_region fun KT hT => ?_ | (refine kd 10 ?_; (first | with_reducible refine x_nil ?_ | with_reducible refine xt_nil ?_); simp only [realS_mk, realM_mk, pvS, pv, List.nil_append, List.cons_append]; try (refine hT _ _ ?_; clear hT KT)) | (with_reducible refine x_take ?_) | (refine kd 11 ?_; refine x_alloc (by first | exact congrArg TI.zero ti3 | exact congrArg TI.zero ti30 | exact congrArg TI.zero ti32 | exact congrArg TI.zero ti67) (by simp) (by rfl) (by rfl) (by decide) rfl rfl ?_; try simp only [upd_mk]) | (refine kd 12 ?_; refine x_empty (by first | exact congrArg TI.d ti3 | exact congrArg TI.d ti30 | exact congrArg TI.d ti32 | exact congrArg TI.d ti67) (by decide) (by rfl) (by decide) rfl rfl ?_; try simp only [upd_mk]) | (refine kd 13 ?_; refine x_append (by first | exact congrArg TI.d ti3 | exact congrArg TI.d ti30 | exact congrArg TI.d ti32 | exact congrArg TI.d ti67) (by decide) (by rfl) (by rfl) rfl (by simp) (by simp only [evV, ev, vw, view, viewL, cD, rowsOf, bA, bB, Nat.reduceEqDiff, reduceIte, bT, gx, fx]; rfl) (by first | exact rowLen_nil _ | exact rowLen_map (fun _ => rfl) | exact flat_map (fun _ => rfl) _ | exact flat_app (flat_map (fun _ => rfl) _) (flat_map (fun _ => rfl) _) | (simp only [rowLen_append, rowLen_cons, rowLen_nil]; done) | (simp [RowLen, FlatRows, scal]; done) | (intro r hr; simp at hr; rcases hr with hr | hr <;> first | (obtain ⟨a, _, rfl⟩ := hr; simp [scal]; done) | (subst hr; simp [scal]; done)) | assumption) (by first | exact rowLen_nil _ | exact rowLen_map (fun _ => rfl) | exact flat_map (fun _ => rfl) _ | exact flat_app (flat_map (fun _ => rfl) _) (flat_map (fun _ => rfl) _) | (simp only [rowLen_append, rowLen_cons, rowLen_nil]; done) | (simp [RowLen, FlatRows, scal]; done) | (intro r hr; simp at hr; rcases hr with hr | hr <;> first | (obtain ⟨a, _, rfl⟩ := hr; simp [scal]; done) | (subst hr; simp [scal]; done)) | assumption) (by simp; omega) (by simp; omega) (by first | exact rowLen_nil _ | exact rowLen_map (fun _ => rfl) | exact flat_map (fun _ => rfl) _ | exact flat_app (flat_map (fun _ => rfl) _) (flat_map (fun _ => rfl) _) | (simp only [rowLen_append, rowLen_cons, rowLen_nil]; done) | (simp [RowLen, FlatRows, scal]; done) | (intro r hr; simp at hr; rcases hr with hr | hr <;> first | (obtain ⟨a, _, rfl⟩ := hr; simp [scal]; done) | (subst hr; simp [scal]; done)) | assumption) (by decide) (by decide) rfl rfl ?_; try simp only [upd_mk, del_cons, del_nil, Nat.reduceEqDiff, reduceIte, bB]) | (refine gp fun KK hK => ?_; first | (refine ⟨by first | exact eq_hop, ?_⟩; (first | refine hK _ _ ?_ | refine hK _ (nz ?_)); clear hK KK) | ((repeat refine And.intro (by first | omega | (rw [getD_map_lt (by omega)]; rfl) | (simp; first | done | omega)) ?_); first | (refine hK _ _ ?_; clear hK KK) | (refine hK _ ?_; clear hK KK; try simp only [upd_mk]))) | ((with_reducible first | refine o_nil (hT _ _ ?_) | refine h_nil (hT _ ?_)); clear hT KT) | (with_reducible first | refine ht_nil ?_ | refine dq_succ ?_ | refine dq_f ?_ | refine dq_t ?_) | ((first | refine gd fun AA BB hA hB => ?_ | refine tc fun AA BB hA hB => ?_); first | (refine go ?_; (first | refine hA ?_ | refine hB ?_); clear hA hB AA BB) | (refine go2 ?_ ?_ <;> intro hb <;> (first | refine hA ?_ | refine hB ?_) <;> clear hA hB AA BB <;> (try simp only [hb, decide_true, decide_false]) <;> (try (exfalso; first | (simp at hb; done) | (simp at hb; omega))))) | (with_reducible refine skS ?_; simp only [upd_mk]) | (refine t_drawXT (id := 1) 8 (by kernel_rfl) (by decide) (by kernel_rfl) fun KT hT => ?_) | with_reducible refine tdr fun KT hT => ?_ | with_reducible refine bY ?_)
   all_goals clear fx)
  (refine fo [10] ?_; try exact trivial)
  exact ⟨rfl, rfl, by simp⟩

set_option maxHeartbeats 2000000 in
theorem grown_s (t : Tp) (p : Pl) (s : Sg) (r inn out : Int) (hr : realm t r = true) (hl : s.hops.length ≤ 1048576) : ACall Tryz.prog 36 [.agg (tpRow t), .agg (polRow p), .agg (segRow s), .int .i64 r, .int .i64 inn, .int .i64 out] (.agg [.int .i64 s.ts, .int .i64 s.beta, .fs 0]) [(grownS t p s r inn out).hops.map hopRow] := by
  have hrl := realm_lt hr
  have e1 := getD_map_lt (f := asRow) hrl.2
  have hk := keyOf_ok hr
  have ca := authHop_s (t.ases[r.toNat]'hrl.2).key s.ts (betaAt s s.hops.length) ⟨r, inn, out, expF p s.ts, 0⟩
  simp only [hopRow] at ca
  simp only [grownS, newHop, hk, append_rows]
  refine acall_mk Tryz.func36 rfl Tryz.ntmps36 Tryz.results36 (by kernel_rfl) (by simp) ?_
  simp only [args, Nat.zero_add, Nat.reduceAdd]
  (have fx := And.intro (@e1) (And.intro (@hrl) (@rowLen_hops))
   repeat' (first | with_reducible refine go ?_ | with_reducible refine t_region fun KT hT => ?_ | (refine gp fun KK hK => ?_; first | ((with_reducible first | refine .inl ⟨_, _, ⟨expF_s p s.ts, rfl, csq⟩, hK _ _ (nz ?_)⟩ | refine .inl ⟨_, _, ⟨copySeg_s s hl, rfl, csq⟩, hK _ _ (nz ?_)⟩ | refine .inl ⟨_, _, ⟨betaAt_s s _ hl, rfl, csq⟩, hK _ _ (nz ?_)⟩ | refine .inl ⟨_, _, ⟨ca, rfl, csq⟩, hK _ _ (nz ?_)⟩ | refine ⟨_, ⟨expF_s p s.ts, rfl, rfl, csq⟩, hK _ (nz ?_)⟩ | refine ⟨_, ⟨copySeg_s s hl, rfl, rfl, csq⟩, hK _ (nz ?_)⟩ | refine ⟨_, ⟨betaAt_s s _ hl, rfl, rfl, csq⟩, hK _ (nz ?_)⟩ | refine ⟨_, ⟨ca, rfl, rfl, csq⟩, hK _ (nz ?_)⟩); clear hK KK) | (refine ⟨by first | exact eq_hop, ?_⟩; (first | refine hK _ _ ?_ | refine hK _ (nz ?_)); clear hK KK) | ((repeat refine And.intro (by first | omega | (rw [getD_map_lt (by omega)]; rfl) | (simp; first | done | omega)) ?_); first | (refine hK _ _ ?_; clear hK KK) | (refine hK _ ?_; clear hK KK; try simp only [upd_mk]))) | ((with_reducible first | refine o_nil (hT _ _ ?_) | refine h_nil (hT _ ?_)); clear hT KT) | (with_reducible first | refine ht_nil ?_ | refine dq_succ ?_ | refine dq_f ?_ | refine dq_t ?_) | ((first | refine gd fun AA BB hA hB => ?_ | refine tc fun AA BB hA hB => ?_); first | (refine go ?_; (first | refine hA ?_ | refine hB ?_); clear hA hB AA BB) | (refine go2 ?_ ?_ <;> intro hb <;> (first | refine hA ?_ | refine hB ?_) <;> clear hA hB AA BB <;> (try simp only [hb, decide_true, decide_false]) <;> (try (exfalso; first | (simp at hb; done) | (simp at hb; omega))))) | (with_reducible refine skS ?_; simp only [upd_mk]) | (refine tdT (id := 3) 18 fun KT hT => ?_) | with_reducible refine tdr fun KT hT => ?_ | with_reducible refine bY ?_)
   all_goals clear fx)
  (refine fo [1016] ?_; try exact trivial)
  exact ⟨rfl, rfl, by simp⟩

set_option maxHeartbeats 8000000 in
theorem ext_i (t : Tp) (p : Pl) (s : Sg) (r inn out : Int) (h1 : t.ases.length ≤ 1048576) (h2 : t.links.length ≤ 1048576) (hl : s.hops.length ≤ 1048576) : ACall Tryz.prog 6 [.agg (tpRow t), .agg (polRow p), .agg (segRow s), .int .i64 r, .int .i64 inn, .int .i64 out] (.tup [.agg [.int .i64 s.ts, .int .i64 s.beta, .fs 0], .bool (extOk t p s r inn out)]) [(extHops t p s r inn out (extOk t p s r inn out)).map hopRow] := by
  have cc := copySeg_i s hl
  have cx := canExt_i t s r inn h1 h2 hl
  have cal := allows_i p s out hl
  have ck := ifKind_i t r out h2
  have cs := segKind_i t s h1 h2 hl
  rcases Bool.eq_false_or_eq_true (canExt t s r inn) with b1 | b1
  · rcases Bool.eq_false_or_eq_true (inR out 1 6) with b2 | b2
    · rcases Bool.eq_false_or_eq_true (out == inn) with b3 | b3
      · have hk : extOk t p s r inn out = false := by rw [extOk, b1, b2, b3]; rfl
        rw [hk]
        simp only [extHops, Bool.false_eq_true, if_false]
        refine acall_mk Tryz.func6 rfl Tryz.ntmps6 Tryz.results6 (by kernel_rfl) (by simp) ?_
        simp only [args, Nat.zero_add, Nat.reduceAdd]
        (have fx := And.intro (@b1) (And.intro (@b2) (@b3))
         repeat' (first | with_reducible refine go ?_ | with_reducible refine t_region fun KT hT => ?_ | (refine gp fun KK hK => ?_; first | ((with_reducible first | refine .inl ⟨_, _, ⟨cx, rfl, csq⟩, hK _ _ (nz ?_)⟩ | refine .inl ⟨_, _, ⟨inRange_i _ _ _, rfl, csq⟩, hK _ _ (nz ?_)⟩ | refine .inl ⟨_, _, ⟨cc, rfl, csq⟩, hK _ _ (nz ?_)⟩ | refine ⟨_, ⟨cx, rfl, rfl, csq⟩, hK _ (nz ?_)⟩ | refine ⟨_, ⟨inRange_i _ _ _, rfl, rfl, csq⟩, hK _ (nz ?_)⟩ | refine ⟨_, ⟨cc, rfl, rfl, csq⟩, hK _ (nz ?_)⟩); clear hK KK) | (refine ⟨by first | exact eq_hop, ?_⟩; (first | refine hK _ _ ?_ | refine hK _ (nz ?_)); clear hK KK) | ((repeat refine And.intro (by first | omega | (rw [getD_map_lt (by omega)]; rfl) | (simp; first | done | omega)) ?_); first | (refine hK _ _ ?_; clear hK KK) | (refine hK _ ?_; clear hK KK; try simp only [upd_mk]))) | ((with_reducible first | refine o_nil (hT _ _ ?_) | refine h_nil (hT _ ?_)); clear hT KT) | ((first | refine gd fun AA BB hA hB => ?_ | refine tc fun AA BB hA hB => ?_); first | (refine go ?_; (first | refine hA ?_ | refine hB ?_); clear hA hB AA BB) | (refine go2 ?_ ?_ <;> intro hb <;> (first | refine hA ?_ | refine hB ?_) <;> clear hA hB AA BB <;> (try simp only [hb, decide_true, decide_false]) <;> (try (exfalso; first | (simp at hb; done) | (simp at hb; omega))))) | (with_reducible refine skS ?_; simp only [upd_mk]) | with_reducible refine tdr fun KT hT => ?_ | with_reducible refine bY ?_)
         all_goals clear fx)
        (refine fo [1039] ?_; try exact trivial)
        exact ⟨rfl, rfl, by simp⟩
      · rcases Bool.eq_false_or_eq_true (allows p s out) with b4 | b4
        · have cg := grown_i t p s r inn out (canExt_realm b1) hl
          have hw : extOk t p s r inn out = (ifKind t r out == wantK t s) := by rw [extOk, b1, b2, b3, b4]; rfl
          rw [hw]
          generalize ifKind t r out = kd at *
          rcases segKind_cases (canExt_valid b1) with hs | hs
          all_goals rw [wantK, hs]
          all_goals rw [hs] at cs
          all_goals simp only [Int.reduceBEq, Bool.false_eq_true, if_false, if_true]
          · rcases Bool.eq_false_or_eq_true (kd == 1) with b5 | b5
            all_goals have n1 : (kd != 1) = !(kd == 1) := rfl
            all_goals rw [b5] at n1
            all_goals simp only [Bool.not_true, Bool.not_false] at n1
            all_goals rw [b5]
            · simp only [extHops, if_true]
              refine acall_mk Tryz.func6 rfl Tryz.ntmps6 Tryz.results6 (by kernel_rfl) (by simp) ?_
              simp only [args, Nat.zero_add, Nat.reduceAdd]
              (have fx := And.intro (@b1) (And.intro (@b2) (And.intro (@b3) (And.intro (@b4) (@n1))))
               repeat' (first | with_reducible refine go ?_ | with_reducible refine t_region fun KT hT => ?_ | (refine gp fun KK hK => ?_; first | ((with_reducible first | refine .inl ⟨_, _, ⟨cx, rfl, csq⟩, hK _ _ (nz ?_)⟩ | refine .inl ⟨_, _, ⟨inRange_i _ _ _, rfl, csq⟩, hK _ _ (nz ?_)⟩ | refine .inl ⟨_, _, ⟨cal, rfl, csq⟩, hK _ _ (nz ?_)⟩ | refine .inl ⟨_, _, ⟨cs, rfl, csq⟩, hK _ _ (nz ?_)⟩ | refine .inl ⟨_, _, ⟨ck, rfl, csq⟩, hK _ _ (nz ?_)⟩ | refine .inl ⟨_, _, ⟨cg, rfl, csq⟩, hK _ _ (nz ?_)⟩ | refine ⟨_, ⟨cx, rfl, rfl, csq⟩, hK _ (nz ?_)⟩ | refine ⟨_, ⟨inRange_i _ _ _, rfl, rfl, csq⟩, hK _ (nz ?_)⟩ | refine ⟨_, ⟨cal, rfl, rfl, csq⟩, hK _ (nz ?_)⟩ | refine ⟨_, ⟨cs, rfl, rfl, csq⟩, hK _ (nz ?_)⟩ | refine ⟨_, ⟨ck, rfl, rfl, csq⟩, hK _ (nz ?_)⟩ | refine ⟨_, ⟨cg, rfl, rfl, csq⟩, hK _ (nz ?_)⟩); clear hK KK) | (refine ⟨by first | exact eq_hop, ?_⟩; (first | refine hK _ _ ?_ | refine hK _ (nz ?_)); clear hK KK) | ((repeat refine And.intro (by first | omega | (rw [getD_map_lt (by omega)]; rfl) | (simp; first | done | omega)) ?_); first | (refine hK _ _ ?_; clear hK KK) | (refine hK _ ?_; clear hK KK; try simp only [upd_mk]))) | ((with_reducible first | refine o_nil (hT _ _ ?_) | refine h_nil (hT _ ?_)); clear hT KT) | ((first | refine gd fun AA BB hA hB => ?_ | refine tc fun AA BB hA hB => ?_); first | (refine go ?_; (first | refine hA ?_ | refine hB ?_); clear hA hB AA BB) | (refine go2 ?_ ?_ <;> intro hb <;> (first | refine hA ?_ | refine hB ?_) <;> clear hA hB AA BB <;> (try simp only [hb, decide_true, decide_false]) <;> (try (exfalso; first | (simp at hb; done) | (simp at hb; omega))))) | (with_reducible refine skS ?_; simp only [upd_mk]) | with_reducible refine tdr fun KT hT => ?_ | with_reducible refine bY ?_)
               all_goals clear fx)
              (refine fo [1058] ?_; try exact trivial)
              exact ⟨rfl, rfl, by simp⟩
            · simp only [extHops, Bool.false_eq_true, if_false]
              refine acall_mk Tryz.func6 rfl Tryz.ntmps6 Tryz.results6 (by kernel_rfl) (by simp) ?_
              simp only [args, Nat.zero_add, Nat.reduceAdd]
              (have fx := And.intro (@b1) (And.intro (@b2) (And.intro (@b3) (And.intro (@b4) (@n1))))
               repeat' (first | with_reducible refine go ?_ | with_reducible refine t_region fun KT hT => ?_ | (refine gp fun KK hK => ?_; first | ((with_reducible first | refine .inl ⟨_, _, ⟨cx, rfl, csq⟩, hK _ _ (nz ?_)⟩ | refine .inl ⟨_, _, ⟨inRange_i _ _ _, rfl, csq⟩, hK _ _ (nz ?_)⟩ | refine .inl ⟨_, _, ⟨cal, rfl, csq⟩, hK _ _ (nz ?_)⟩ | refine .inl ⟨_, _, ⟨cs, rfl, csq⟩, hK _ _ (nz ?_)⟩ | refine .inl ⟨_, _, ⟨ck, rfl, csq⟩, hK _ _ (nz ?_)⟩ | refine .inl ⟨_, _, ⟨cc, rfl, csq⟩, hK _ _ (nz ?_)⟩ | refine ⟨_, ⟨cx, rfl, rfl, csq⟩, hK _ (nz ?_)⟩ | refine ⟨_, ⟨inRange_i _ _ _, rfl, rfl, csq⟩, hK _ (nz ?_)⟩ | refine ⟨_, ⟨cal, rfl, rfl, csq⟩, hK _ (nz ?_)⟩ | refine ⟨_, ⟨cs, rfl, rfl, csq⟩, hK _ (nz ?_)⟩ | refine ⟨_, ⟨ck, rfl, rfl, csq⟩, hK _ (nz ?_)⟩ | refine ⟨_, ⟨cc, rfl, rfl, csq⟩, hK _ (nz ?_)⟩); clear hK KK) | (refine ⟨by first | exact eq_hop, ?_⟩; (first | refine hK _ _ ?_ | refine hK _ (nz ?_)); clear hK KK) | ((repeat refine And.intro (by first | omega | (rw [getD_map_lt (by omega)]; rfl) | (simp; first | done | omega)) ?_); first | (refine hK _ _ ?_; clear hK KK) | (refine hK _ ?_; clear hK KK; try simp only [upd_mk]))) | ((with_reducible first | refine o_nil (hT _ _ ?_) | refine h_nil (hT _ ?_)); clear hT KT) | ((first | refine gd fun AA BB hA hB => ?_ | refine tc fun AA BB hA hB => ?_); first | (refine go ?_; (first | refine hA ?_ | refine hB ?_); clear hA hB AA BB) | (refine go2 ?_ ?_ <;> intro hb <;> (first | refine hA ?_ | refine hB ?_) <;> clear hA hB AA BB <;> (try simp only [hb, decide_true, decide_false]) <;> (try (exfalso; first | (simp at hb; done) | (simp at hb; omega))))) | (with_reducible refine skS ?_; simp only [upd_mk]) | with_reducible refine tdr fun KT hT => ?_ | with_reducible refine bY ?_)
               all_goals clear fx)
              (refine fo [1051] ?_; try exact trivial)
              exact ⟨rfl, rfl, by simp⟩
          · rcases Bool.eq_false_or_eq_true (kd == 2) with b5 | b5
            all_goals have n1 : (kd != 2) = !(kd == 2) := rfl
            all_goals rw [b5] at n1
            all_goals simp only [Bool.not_true, Bool.not_false] at n1
            all_goals rw [b5]
            · simp only [extHops, if_true]
              refine acall_mk Tryz.func6 rfl Tryz.ntmps6 Tryz.results6 (by kernel_rfl) (by simp) ?_
              simp only [args, Nat.zero_add, Nat.reduceAdd]
              (have fx := And.intro (@b1) (And.intro (@b2) (And.intro (@b3) (And.intro (@b4) (@n1))))
               repeat' (first | with_reducible refine go ?_ | with_reducible refine t_region fun KT hT => ?_ | (refine gp fun KK hK => ?_; first | ((with_reducible first | refine .inl ⟨_, _, ⟨cx, rfl, csq⟩, hK _ _ (nz ?_)⟩ | refine .inl ⟨_, _, ⟨inRange_i _ _ _, rfl, csq⟩, hK _ _ (nz ?_)⟩ | refine .inl ⟨_, _, ⟨cal, rfl, csq⟩, hK _ _ (nz ?_)⟩ | refine .inl ⟨_, _, ⟨cs, rfl, csq⟩, hK _ _ (nz ?_)⟩ | refine .inl ⟨_, _, ⟨ck, rfl, csq⟩, hK _ _ (nz ?_)⟩ | refine .inl ⟨_, _, ⟨cg, rfl, csq⟩, hK _ _ (nz ?_)⟩ | refine ⟨_, ⟨cx, rfl, rfl, csq⟩, hK _ (nz ?_)⟩ | refine ⟨_, ⟨inRange_i _ _ _, rfl, rfl, csq⟩, hK _ (nz ?_)⟩ | refine ⟨_, ⟨cal, rfl, rfl, csq⟩, hK _ (nz ?_)⟩ | refine ⟨_, ⟨cs, rfl, rfl, csq⟩, hK _ (nz ?_)⟩ | refine ⟨_, ⟨ck, rfl, rfl, csq⟩, hK _ (nz ?_)⟩ | refine ⟨_, ⟨cg, rfl, rfl, csq⟩, hK _ (nz ?_)⟩); clear hK KK) | (refine ⟨by first | exact eq_hop, ?_⟩; (first | refine hK _ _ ?_ | refine hK _ (nz ?_)); clear hK KK) | ((repeat refine And.intro (by first | omega | (rw [getD_map_lt (by omega)]; rfl) | (simp; first | done | omega)) ?_); first | (refine hK _ _ ?_; clear hK KK) | (refine hK _ ?_; clear hK KK; try simp only [upd_mk]))) | ((with_reducible first | refine o_nil (hT _ _ ?_) | refine h_nil (hT _ ?_)); clear hT KT) | ((first | refine gd fun AA BB hA hB => ?_ | refine tc fun AA BB hA hB => ?_); first | (refine go ?_; (first | refine hA ?_ | refine hB ?_); clear hA hB AA BB) | (refine go2 ?_ ?_ <;> intro hb <;> (first | refine hA ?_ | refine hB ?_) <;> clear hA hB AA BB <;> (try simp only [hb, decide_true, decide_false]) <;> (try (exfalso; first | (simp at hb; done) | (simp at hb; omega))))) | (with_reducible refine skS ?_; simp only [upd_mk]) | with_reducible refine tdr fun KT hT => ?_ | with_reducible refine bY ?_)
               all_goals clear fx)
              (refine fo [1058] ?_; try exact trivial)
              exact ⟨rfl, rfl, by simp⟩
            · simp only [extHops, Bool.false_eq_true, if_false]
              refine acall_mk Tryz.func6 rfl Tryz.ntmps6 Tryz.results6 (by kernel_rfl) (by simp) ?_
              simp only [args, Nat.zero_add, Nat.reduceAdd]
              (have fx := And.intro (@b1) (And.intro (@b2) (And.intro (@b3) (And.intro (@b4) (@n1))))
               repeat' (first | with_reducible refine go ?_ | with_reducible refine t_region fun KT hT => ?_ | (refine gp fun KK hK => ?_; first | ((with_reducible first | refine .inl ⟨_, _, ⟨cx, rfl, csq⟩, hK _ _ (nz ?_)⟩ | refine .inl ⟨_, _, ⟨inRange_i _ _ _, rfl, csq⟩, hK _ _ (nz ?_)⟩ | refine .inl ⟨_, _, ⟨cal, rfl, csq⟩, hK _ _ (nz ?_)⟩ | refine .inl ⟨_, _, ⟨cs, rfl, csq⟩, hK _ _ (nz ?_)⟩ | refine .inl ⟨_, _, ⟨ck, rfl, csq⟩, hK _ _ (nz ?_)⟩ | refine .inl ⟨_, _, ⟨cc, rfl, csq⟩, hK _ _ (nz ?_)⟩ | refine ⟨_, ⟨cx, rfl, rfl, csq⟩, hK _ (nz ?_)⟩ | refine ⟨_, ⟨inRange_i _ _ _, rfl, rfl, csq⟩, hK _ (nz ?_)⟩ | refine ⟨_, ⟨cal, rfl, rfl, csq⟩, hK _ (nz ?_)⟩ | refine ⟨_, ⟨cs, rfl, rfl, csq⟩, hK _ (nz ?_)⟩ | refine ⟨_, ⟨ck, rfl, rfl, csq⟩, hK _ (nz ?_)⟩ | refine ⟨_, ⟨cc, rfl, rfl, csq⟩, hK _ (nz ?_)⟩); clear hK KK) | (refine ⟨by first | exact eq_hop, ?_⟩; (first | refine hK _ _ ?_ | refine hK _ (nz ?_)); clear hK KK) | ((repeat refine And.intro (by first | omega | (rw [getD_map_lt (by omega)]; rfl) | (simp; first | done | omega)) ?_); first | (refine hK _ _ ?_; clear hK KK) | (refine hK _ ?_; clear hK KK; try simp only [upd_mk]))) | ((with_reducible first | refine o_nil (hT _ _ ?_) | refine h_nil (hT _ ?_)); clear hT KT) | ((first | refine gd fun AA BB hA hB => ?_ | refine tc fun AA BB hA hB => ?_); first | (refine go ?_; (first | refine hA ?_ | refine hB ?_); clear hA hB AA BB) | (refine go2 ?_ ?_ <;> intro hb <;> (first | refine hA ?_ | refine hB ?_) <;> clear hA hB AA BB <;> (try simp only [hb, decide_true, decide_false]) <;> (try (exfalso; first | (simp at hb; done) | (simp at hb; omega))))) | (with_reducible refine skS ?_; simp only [upd_mk]) | with_reducible refine tdr fun KT hT => ?_ | with_reducible refine bY ?_)
               all_goals clear fx)
              (refine fo [1051] ?_; try exact trivial)
              exact ⟨rfl, rfl, by simp⟩
        · have hk : extOk t p s r inn out = false := by rw [extOk, b1, b2, b3, b4]; rfl
          rw [hk]
          simp only [extHops, Bool.false_eq_true, if_false]
          refine acall_mk Tryz.func6 rfl Tryz.ntmps6 Tryz.results6 (by kernel_rfl) (by simp) ?_
          simp only [args, Nat.zero_add, Nat.reduceAdd]
          (have fx := And.intro (@b1) (And.intro (@b2) (And.intro (@b3) (@b4)))
           repeat' (first | with_reducible refine go ?_ | with_reducible refine t_region fun KT hT => ?_ | (refine gp fun KK hK => ?_; first | ((with_reducible first | refine .inl ⟨_, _, ⟨cx, rfl, csq⟩, hK _ _ (nz ?_)⟩ | refine .inl ⟨_, _, ⟨inRange_i _ _ _, rfl, csq⟩, hK _ _ (nz ?_)⟩ | refine .inl ⟨_, _, ⟨cal, rfl, csq⟩, hK _ _ (nz ?_)⟩ | refine .inl ⟨_, _, ⟨cc, rfl, csq⟩, hK _ _ (nz ?_)⟩ | refine ⟨_, ⟨cx, rfl, rfl, csq⟩, hK _ (nz ?_)⟩ | refine ⟨_, ⟨inRange_i _ _ _, rfl, rfl, csq⟩, hK _ (nz ?_)⟩ | refine ⟨_, ⟨cal, rfl, rfl, csq⟩, hK _ (nz ?_)⟩ | refine ⟨_, ⟨cc, rfl, rfl, csq⟩, hK _ (nz ?_)⟩); clear hK KK) | (refine ⟨by first | exact eq_hop, ?_⟩; (first | refine hK _ _ ?_ | refine hK _ (nz ?_)); clear hK KK) | ((repeat refine And.intro (by first | omega | (rw [getD_map_lt (by omega)]; rfl) | (simp; first | done | omega)) ?_); first | (refine hK _ _ ?_; clear hK KK) | (refine hK _ ?_; clear hK KK; try simp only [upd_mk]))) | ((with_reducible first | refine o_nil (hT _ _ ?_) | refine h_nil (hT _ ?_)); clear hT KT) | ((first | refine gd fun AA BB hA hB => ?_ | refine tc fun AA BB hA hB => ?_); first | (refine go ?_; (first | refine hA ?_ | refine hB ?_); clear hA hB AA BB) | (refine go2 ?_ ?_ <;> intro hb <;> (first | refine hA ?_ | refine hB ?_) <;> clear hA hB AA BB <;> (try simp only [hb, decide_true, decide_false]) <;> (try (exfalso; first | (simp at hb; done) | (simp at hb; omega))))) | (with_reducible refine skS ?_; simp only [upd_mk]) | with_reducible refine tdr fun KT hT => ?_ | with_reducible refine bY ?_)
           all_goals clear fx)
          (refine fo [1039] ?_; try exact trivial)
          exact ⟨rfl, rfl, by simp⟩
    · have hk : extOk t p s r inn out = false := by rw [extOk, b1, b2]; rfl
      rw [hk]
      simp only [extHops, Bool.false_eq_true, if_false]
      refine acall_mk Tryz.func6 rfl Tryz.ntmps6 Tryz.results6 (by kernel_rfl) (by simp) ?_
      simp only [args, Nat.zero_add, Nat.reduceAdd]
      (have fx := And.intro (@b1) (@b2)
       repeat' (first | with_reducible refine go ?_ | with_reducible refine t_region fun KT hT => ?_ | (refine gp fun KK hK => ?_; first | ((with_reducible first | refine .inl ⟨_, _, ⟨cx, rfl, csq⟩, hK _ _ (nz ?_)⟩ | refine .inl ⟨_, _, ⟨inRange_i _ _ _, rfl, csq⟩, hK _ _ (nz ?_)⟩ | refine .inl ⟨_, _, ⟨cc, rfl, csq⟩, hK _ _ (nz ?_)⟩ | refine ⟨_, ⟨cx, rfl, rfl, csq⟩, hK _ (nz ?_)⟩ | refine ⟨_, ⟨inRange_i _ _ _, rfl, rfl, csq⟩, hK _ (nz ?_)⟩ | refine ⟨_, ⟨cc, rfl, rfl, csq⟩, hK _ (nz ?_)⟩); clear hK KK) | (refine ⟨by first | exact eq_hop, ?_⟩; (first | refine hK _ _ ?_ | refine hK _ (nz ?_)); clear hK KK) | ((repeat refine And.intro (by first | omega | (rw [getD_map_lt (by omega)]; rfl) | (simp; first | done | omega)) ?_); first | (refine hK _ _ ?_; clear hK KK) | (refine hK _ ?_; clear hK KK; try simp only [upd_mk]))) | ((with_reducible first | refine o_nil (hT _ _ ?_) | refine h_nil (hT _ ?_)); clear hT KT) | ((first | refine gd fun AA BB hA hB => ?_ | refine tc fun AA BB hA hB => ?_); first | (refine go ?_; (first | refine hA ?_ | refine hB ?_); clear hA hB AA BB) | (refine go2 ?_ ?_ <;> intro hb <;> (first | refine hA ?_ | refine hB ?_) <;> clear hA hB AA BB <;> (try simp only [hb, decide_true, decide_false]) <;> (try (exfalso; first | (simp at hb; done) | (simp at hb; omega))))) | (with_reducible refine skS ?_; simp only [upd_mk]) | with_reducible refine tdr fun KT hT => ?_ | with_reducible refine bY ?_)
       all_goals clear fx)
      (refine fo [1039] ?_; try exact trivial)
      exact ⟨rfl, rfl, by simp⟩
  · have hk : extOk t p s r inn out = false := by rw [extOk, b1]; rfl
    rw [hk]
    simp only [extHops, Bool.false_eq_true, if_false]
    refine acall_mk Tryz.func6 rfl Tryz.ntmps6 Tryz.results6 (by kernel_rfl) (by simp) ?_
    simp only [args, Nat.zero_add, Nat.reduceAdd]
    (have fx := (@b1)
     repeat' (first | with_reducible refine go ?_ | with_reducible refine t_region fun KT hT => ?_ | (refine gp fun KK hK => ?_; first | ((with_reducible first | refine .inl ⟨_, _, ⟨cx, rfl, csq⟩, hK _ _ (nz ?_)⟩ | refine .inl ⟨_, _, ⟨cc, rfl, csq⟩, hK _ _ (nz ?_)⟩ | refine ⟨_, ⟨cx, rfl, rfl, csq⟩, hK _ (nz ?_)⟩ | refine ⟨_, ⟨cc, rfl, rfl, csq⟩, hK _ (nz ?_)⟩); clear hK KK) | (refine ⟨by first | exact eq_hop, ?_⟩; (first | refine hK _ _ ?_ | refine hK _ (nz ?_)); clear hK KK) | ((repeat refine And.intro (by first | omega | (rw [getD_map_lt (by omega)]; rfl) | (simp; first | done | omega)) ?_); first | (refine hK _ _ ?_; clear hK KK) | (refine hK _ ?_; clear hK KK; try simp only [upd_mk]))) | ((with_reducible first | refine o_nil (hT _ _ ?_) | refine h_nil (hT _ ?_)); clear hT KT) | ((first | refine gd fun AA BB hA hB => ?_ | refine tc fun AA BB hA hB => ?_); first | (refine go ?_; (first | refine hA ?_ | refine hB ?_); clear hA hB AA BB) | (refine go2 ?_ ?_ <;> intro hb <;> (first | refine hA ?_ | refine hB ?_) <;> clear hA hB AA BB <;> (try simp only [hb, decide_true, decide_false]) <;> (try (exfalso; first | (simp at hb; done) | (simp at hb; omega))))) | (with_reducible refine skS ?_; simp only [upd_mk]) | with_reducible refine tdr fun KT hT => ?_ | with_reducible refine bY ?_)
     all_goals clear fx)
    (refine fo [1039] ?_; try exact trivial)
    exact ⟨rfl, rfl, by simp⟩

set_option maxHeartbeats 8000000 in
theorem ext_s (t : Tp) (p : Pl) (s : Sg) (r inn out : Int) (h1 : t.ases.length ≤ 1048576) (h2 : t.links.length ≤ 1048576) (hl : s.hops.length ≤ 1048576) : ACall Tryz.prog 7 [.agg (tpRow t), .agg (polRow p), .agg (segRow s), .int .i64 r, .int .i64 inn, .int .i64 out] (.tup [.agg [.int .i64 s.ts, .int .i64 s.beta, .fs 0], .bool (extOk t p s r inn out)]) [(extHops t p s r inn out (extOk t p s r inn out)).map hopRow] := by
  have cc := copySeg_s s hl
  have cx := canExt_s t s r inn h1 h2 hl
  have cal := allows_s p s out hl
  have ck := ifKind_s t r out h2
  have cs := segKind_s t s h1 h2 hl
  rcases Bool.eq_false_or_eq_true (canExt t s r inn) with b1 | b1
  · rcases Bool.eq_false_or_eq_true (inR out 1 6) with b2 | b2
    · rcases Bool.eq_false_or_eq_true (out == inn) with b3 | b3
      · have hk : extOk t p s r inn out = false := by rw [extOk, b1, b2, b3]; rfl
        rw [hk]
        simp only [extHops, Bool.false_eq_true, if_false]
        refine acall_mk Tryz.func7 rfl Tryz.ntmps7 Tryz.results7 (by kernel_rfl) (by simp) ?_
        simp only [args, Nat.zero_add, Nat.reduceAdd]
        (have fx := And.intro (@b1) (And.intro (@b2) (@b3))
         repeat' (first | with_reducible refine go ?_ | with_reducible refine t_region fun KT hT => ?_ | (refine gp fun KK hK => ?_; first | ((with_reducible first | refine .inl ⟨_, _, ⟨cx, rfl, csq⟩, hK _ _ (nz ?_)⟩ | refine .inl ⟨_, _, ⟨l1In_s _ _ _, rfl, csq⟩, hK _ _ (nz ?_)⟩ | refine .inl ⟨_, _, ⟨cc, rfl, csq⟩, hK _ _ (nz ?_)⟩ | refine ⟨_, ⟨cx, rfl, rfl, csq⟩, hK _ (nz ?_)⟩ | refine ⟨_, ⟨l1In_s _ _ _, rfl, rfl, csq⟩, hK _ (nz ?_)⟩ | refine ⟨_, ⟨cc, rfl, rfl, csq⟩, hK _ (nz ?_)⟩); clear hK KK) | (refine ⟨by first | exact eq_hop, ?_⟩; (first | refine hK _ _ ?_ | refine hK _ (nz ?_)); clear hK KK) | ((repeat refine And.intro (by first | omega | (rw [getD_map_lt (by omega)]; rfl) | (simp; first | done | omega)) ?_); first | (refine hK _ _ ?_; clear hK KK) | (refine hK _ ?_; clear hK KK; try simp only [upd_mk]))) | ((with_reducible first | refine o_nil (hT _ _ ?_) | refine h_nil (hT _ ?_)); clear hT KT) | ((first | refine gd fun AA BB hA hB => ?_ | refine tc fun AA BB hA hB => ?_); first | (refine go ?_; (first | refine hA ?_ | refine hB ?_); clear hA hB AA BB) | (refine go2 ?_ ?_ <;> intro hb <;> (first | refine hA ?_ | refine hB ?_) <;> clear hA hB AA BB <;> (try simp only [hb, decide_true, decide_false]) <;> (try (exfalso; first | (simp at hb; done) | (simp at hb; omega))))) | (with_reducible refine skS ?_; simp only [upd_mk]) | with_reducible refine tdr fun KT hT => ?_ | with_reducible refine bY ?_)
         all_goals clear fx)
        (refine fo [1039] ?_; try exact trivial)
        exact ⟨rfl, rfl, by simp⟩
      · rcases Bool.eq_false_or_eq_true (allows p s out) with b4 | b4
        · have cg := grown_s t p s r inn out (canExt_realm b1) hl
          have hw : extOk t p s r inn out = (ifKind t r out == wantK t s) := by rw [extOk, b1, b2, b3, b4]; rfl
          rw [hw]
          generalize ifKind t r out = kd at *
          rcases segKind_cases (canExt_valid b1) with hs | hs
          all_goals rw [wantK, hs]
          all_goals rw [hs] at cs
          all_goals simp only [Int.reduceBEq, Bool.false_eq_true, if_false, if_true]
          · rcases Bool.eq_false_or_eq_true (kd == 1) with b5 | b5
            all_goals have n1 : (kd != 1) = !(kd == 1) := rfl
            all_goals rw [b5] at n1
            all_goals simp only [Bool.not_true, Bool.not_false] at n1
            all_goals rw [b5]
            · simp only [extHops, if_true]
              refine acall_mk Tryz.func7 rfl Tryz.ntmps7 Tryz.results7 (by kernel_rfl) (by simp) ?_
              simp only [args, Nat.zero_add, Nat.reduceAdd]
              (have fx := And.intro (@b1) (And.intro (@b2) (And.intro (@b3) (And.intro (@b4) (@n1))))
               repeat' (first | with_reducible refine go ?_ | with_reducible refine t_region fun KT hT => ?_ | (refine gp fun KK hK => ?_; first | ((with_reducible first | refine .inl ⟨_, _, ⟨cx, rfl, csq⟩, hK _ _ (nz ?_)⟩ | refine .inl ⟨_, _, ⟨l1In_s _ _ _, rfl, csq⟩, hK _ _ (nz ?_)⟩ | refine .inl ⟨_, _, ⟨cal, rfl, csq⟩, hK _ _ (nz ?_)⟩ | refine .inl ⟨_, _, ⟨cs, rfl, csq⟩, hK _ _ (nz ?_)⟩ | refine .inl ⟨_, _, ⟨ck, rfl, csq⟩, hK _ _ (nz ?_)⟩ | refine .inl ⟨_, _, ⟨cg, rfl, csq⟩, hK _ _ (nz ?_)⟩ | refine ⟨_, ⟨cx, rfl, rfl, csq⟩, hK _ (nz ?_)⟩ | refine ⟨_, ⟨l1In_s _ _ _, rfl, rfl, csq⟩, hK _ (nz ?_)⟩ | refine ⟨_, ⟨cal, rfl, rfl, csq⟩, hK _ (nz ?_)⟩ | refine ⟨_, ⟨cs, rfl, rfl, csq⟩, hK _ (nz ?_)⟩ | refine ⟨_, ⟨ck, rfl, rfl, csq⟩, hK _ (nz ?_)⟩ | refine ⟨_, ⟨cg, rfl, rfl, csq⟩, hK _ (nz ?_)⟩); clear hK KK) | (refine ⟨by first | exact eq_hop, ?_⟩; (first | refine hK _ _ ?_ | refine hK _ (nz ?_)); clear hK KK) | ((repeat refine And.intro (by first | omega | (rw [getD_map_lt (by omega)]; rfl) | (simp; first | done | omega)) ?_); first | (refine hK _ _ ?_; clear hK KK) | (refine hK _ ?_; clear hK KK; try simp only [upd_mk]))) | ((with_reducible first | refine o_nil (hT _ _ ?_) | refine h_nil (hT _ ?_)); clear hT KT) | ((first | refine gd fun AA BB hA hB => ?_ | refine tc fun AA BB hA hB => ?_); first | (refine go ?_; (first | refine hA ?_ | refine hB ?_); clear hA hB AA BB) | (refine go2 ?_ ?_ <;> intro hb <;> (first | refine hA ?_ | refine hB ?_) <;> clear hA hB AA BB <;> (try simp only [hb, decide_true, decide_false]) <;> (try (exfalso; first | (simp at hb; done) | (simp at hb; omega))))) | (with_reducible refine skS ?_; simp only [upd_mk]) | with_reducible refine tdr fun KT hT => ?_ | with_reducible refine bY ?_)
               all_goals clear fx)
              (refine fo [1058] ?_; try exact trivial)
              exact ⟨rfl, rfl, by simp⟩
            · simp only [extHops, Bool.false_eq_true, if_false]
              refine acall_mk Tryz.func7 rfl Tryz.ntmps7 Tryz.results7 (by kernel_rfl) (by simp) ?_
              simp only [args, Nat.zero_add, Nat.reduceAdd]
              (have fx := And.intro (@b1) (And.intro (@b2) (And.intro (@b3) (And.intro (@b4) (@n1))))
               repeat' (first | with_reducible refine go ?_ | with_reducible refine t_region fun KT hT => ?_ | (refine gp fun KK hK => ?_; first | ((with_reducible first | refine .inl ⟨_, _, ⟨cx, rfl, csq⟩, hK _ _ (nz ?_)⟩ | refine .inl ⟨_, _, ⟨l1In_s _ _ _, rfl, csq⟩, hK _ _ (nz ?_)⟩ | refine .inl ⟨_, _, ⟨cal, rfl, csq⟩, hK _ _ (nz ?_)⟩ | refine .inl ⟨_, _, ⟨cs, rfl, csq⟩, hK _ _ (nz ?_)⟩ | refine .inl ⟨_, _, ⟨ck, rfl, csq⟩, hK _ _ (nz ?_)⟩ | refine .inl ⟨_, _, ⟨cc, rfl, csq⟩, hK _ _ (nz ?_)⟩ | refine ⟨_, ⟨cx, rfl, rfl, csq⟩, hK _ (nz ?_)⟩ | refine ⟨_, ⟨l1In_s _ _ _, rfl, rfl, csq⟩, hK _ (nz ?_)⟩ | refine ⟨_, ⟨cal, rfl, rfl, csq⟩, hK _ (nz ?_)⟩ | refine ⟨_, ⟨cs, rfl, rfl, csq⟩, hK _ (nz ?_)⟩ | refine ⟨_, ⟨ck, rfl, rfl, csq⟩, hK _ (nz ?_)⟩ | refine ⟨_, ⟨cc, rfl, rfl, csq⟩, hK _ (nz ?_)⟩); clear hK KK) | (refine ⟨by first | exact eq_hop, ?_⟩; (first | refine hK _ _ ?_ | refine hK _ (nz ?_)); clear hK KK) | ((repeat refine And.intro (by first | omega | (rw [getD_map_lt (by omega)]; rfl) | (simp; first | done | omega)) ?_); first | (refine hK _ _ ?_; clear hK KK) | (refine hK _ ?_; clear hK KK; try simp only [upd_mk]))) | ((with_reducible first | refine o_nil (hT _ _ ?_) | refine h_nil (hT _ ?_)); clear hT KT) | ((first | refine gd fun AA BB hA hB => ?_ | refine tc fun AA BB hA hB => ?_); first | (refine go ?_; (first | refine hA ?_ | refine hB ?_); clear hA hB AA BB) | (refine go2 ?_ ?_ <;> intro hb <;> (first | refine hA ?_ | refine hB ?_) <;> clear hA hB AA BB <;> (try simp only [hb, decide_true, decide_false]) <;> (try (exfalso; first | (simp at hb; done) | (simp at hb; omega))))) | (with_reducible refine skS ?_; simp only [upd_mk]) | with_reducible refine tdr fun KT hT => ?_ | with_reducible refine bY ?_)
               all_goals clear fx)
              (refine fo [1051] ?_; try exact trivial)
              exact ⟨rfl, rfl, by simp⟩
          · rcases Bool.eq_false_or_eq_true (kd == 2) with b5 | b5
            all_goals have n1 : (kd != 2) = !(kd == 2) := rfl
            all_goals rw [b5] at n1
            all_goals simp only [Bool.not_true, Bool.not_false] at n1
            all_goals rw [b5]
            · simp only [extHops, if_true]
              refine acall_mk Tryz.func7 rfl Tryz.ntmps7 Tryz.results7 (by kernel_rfl) (by simp) ?_
              simp only [args, Nat.zero_add, Nat.reduceAdd]
              (have fx := And.intro (@b1) (And.intro (@b2) (And.intro (@b3) (And.intro (@b4) (@n1))))
               repeat' (first | with_reducible refine go ?_ | with_reducible refine t_region fun KT hT => ?_ | (refine gp fun KK hK => ?_; first | ((with_reducible first | refine .inl ⟨_, _, ⟨cx, rfl, csq⟩, hK _ _ (nz ?_)⟩ | refine .inl ⟨_, _, ⟨l1In_s _ _ _, rfl, csq⟩, hK _ _ (nz ?_)⟩ | refine .inl ⟨_, _, ⟨cal, rfl, csq⟩, hK _ _ (nz ?_)⟩ | refine .inl ⟨_, _, ⟨cs, rfl, csq⟩, hK _ _ (nz ?_)⟩ | refine .inl ⟨_, _, ⟨ck, rfl, csq⟩, hK _ _ (nz ?_)⟩ | refine .inl ⟨_, _, ⟨cg, rfl, csq⟩, hK _ _ (nz ?_)⟩ | refine ⟨_, ⟨cx, rfl, rfl, csq⟩, hK _ (nz ?_)⟩ | refine ⟨_, ⟨l1In_s _ _ _, rfl, rfl, csq⟩, hK _ (nz ?_)⟩ | refine ⟨_, ⟨cal, rfl, rfl, csq⟩, hK _ (nz ?_)⟩ | refine ⟨_, ⟨cs, rfl, rfl, csq⟩, hK _ (nz ?_)⟩ | refine ⟨_, ⟨ck, rfl, rfl, csq⟩, hK _ (nz ?_)⟩ | refine ⟨_, ⟨cg, rfl, rfl, csq⟩, hK _ (nz ?_)⟩); clear hK KK) | (refine ⟨by first | exact eq_hop, ?_⟩; (first | refine hK _ _ ?_ | refine hK _ (nz ?_)); clear hK KK) | ((repeat refine And.intro (by first | omega | (rw [getD_map_lt (by omega)]; rfl) | (simp; first | done | omega)) ?_); first | (refine hK _ _ ?_; clear hK KK) | (refine hK _ ?_; clear hK KK; try simp only [upd_mk]))) | ((with_reducible first | refine o_nil (hT _ _ ?_) | refine h_nil (hT _ ?_)); clear hT KT) | ((first | refine gd fun AA BB hA hB => ?_ | refine tc fun AA BB hA hB => ?_); first | (refine go ?_; (first | refine hA ?_ | refine hB ?_); clear hA hB AA BB) | (refine go2 ?_ ?_ <;> intro hb <;> (first | refine hA ?_ | refine hB ?_) <;> clear hA hB AA BB <;> (try simp only [hb, decide_true, decide_false]) <;> (try (exfalso; first | (simp at hb; done) | (simp at hb; omega))))) | (with_reducible refine skS ?_; simp only [upd_mk]) | with_reducible refine tdr fun KT hT => ?_ | with_reducible refine bY ?_)
               all_goals clear fx)
              (refine fo [1058] ?_; try exact trivial)
              exact ⟨rfl, rfl, by simp⟩
            · simp only [extHops, Bool.false_eq_true, if_false]
              refine acall_mk Tryz.func7 rfl Tryz.ntmps7 Tryz.results7 (by kernel_rfl) (by simp) ?_
              simp only [args, Nat.zero_add, Nat.reduceAdd]
              (have fx := And.intro (@b1) (And.intro (@b2) (And.intro (@b3) (And.intro (@b4) (@n1))))
               repeat' (first | with_reducible refine go ?_ | with_reducible refine t_region fun KT hT => ?_ | (refine gp fun KK hK => ?_; first | ((with_reducible first | refine .inl ⟨_, _, ⟨cx, rfl, csq⟩, hK _ _ (nz ?_)⟩ | refine .inl ⟨_, _, ⟨l1In_s _ _ _, rfl, csq⟩, hK _ _ (nz ?_)⟩ | refine .inl ⟨_, _, ⟨cal, rfl, csq⟩, hK _ _ (nz ?_)⟩ | refine .inl ⟨_, _, ⟨cs, rfl, csq⟩, hK _ _ (nz ?_)⟩ | refine .inl ⟨_, _, ⟨ck, rfl, csq⟩, hK _ _ (nz ?_)⟩ | refine .inl ⟨_, _, ⟨cc, rfl, csq⟩, hK _ _ (nz ?_)⟩ | refine ⟨_, ⟨cx, rfl, rfl, csq⟩, hK _ (nz ?_)⟩ | refine ⟨_, ⟨l1In_s _ _ _, rfl, rfl, csq⟩, hK _ (nz ?_)⟩ | refine ⟨_, ⟨cal, rfl, rfl, csq⟩, hK _ (nz ?_)⟩ | refine ⟨_, ⟨cs, rfl, rfl, csq⟩, hK _ (nz ?_)⟩ | refine ⟨_, ⟨ck, rfl, rfl, csq⟩, hK _ (nz ?_)⟩ | refine ⟨_, ⟨cc, rfl, rfl, csq⟩, hK _ (nz ?_)⟩); clear hK KK) | (refine ⟨by first | exact eq_hop, ?_⟩; (first | refine hK _ _ ?_ | refine hK _ (nz ?_)); clear hK KK) | ((repeat refine And.intro (by first | omega | (rw [getD_map_lt (by omega)]; rfl) | (simp; first | done | omega)) ?_); first | (refine hK _ _ ?_; clear hK KK) | (refine hK _ ?_; clear hK KK; try simp only [upd_mk]))) | ((with_reducible first | refine o_nil (hT _ _ ?_) | refine h_nil (hT _ ?_)); clear hT KT) | ((first | refine gd fun AA BB hA hB => ?_ | refine tc fun AA BB hA hB => ?_); first | (refine go ?_; (first | refine hA ?_ | refine hB ?_); clear hA hB AA BB) | (refine go2 ?_ ?_ <;> intro hb <;> (first | refine hA ?_ | refine hB ?_) <;> clear hA hB AA BB <;> (try simp only [hb, decide_true, decide_false]) <;> (try (exfalso; first | (simp at hb; done) | (simp at hb; omega))))) | (with_reducible refine skS ?_; simp only [upd_mk]) | with_reducible refine tdr fun KT hT => ?_ | with_reducible refine bY ?_)
               all_goals clear fx)
              (refine fo [1051] ?_; try exact trivial)
              exact ⟨rfl, rfl, by simp⟩
        · have hk : extOk t p s r inn out = false := by rw [extOk, b1, b2, b3, b4]; rfl
          rw [hk]
          simp only [extHops, Bool.false_eq_true, if_false]
          refine acall_mk Tryz.func7 rfl Tryz.ntmps7 Tryz.results7 (by kernel_rfl) (by simp) ?_
          simp only [args, Nat.zero_add, Nat.reduceAdd]
          (have fx := And.intro (@b1) (And.intro (@b2) (And.intro (@b3) (@b4)))
           repeat' (first | with_reducible refine go ?_ | with_reducible refine t_region fun KT hT => ?_ | (refine gp fun KK hK => ?_; first | ((with_reducible first | refine .inl ⟨_, _, ⟨cx, rfl, csq⟩, hK _ _ (nz ?_)⟩ | refine .inl ⟨_, _, ⟨l1In_s _ _ _, rfl, csq⟩, hK _ _ (nz ?_)⟩ | refine .inl ⟨_, _, ⟨cal, rfl, csq⟩, hK _ _ (nz ?_)⟩ | refine .inl ⟨_, _, ⟨cc, rfl, csq⟩, hK _ _ (nz ?_)⟩ | refine ⟨_, ⟨cx, rfl, rfl, csq⟩, hK _ (nz ?_)⟩ | refine ⟨_, ⟨l1In_s _ _ _, rfl, rfl, csq⟩, hK _ (nz ?_)⟩ | refine ⟨_, ⟨cal, rfl, rfl, csq⟩, hK _ (nz ?_)⟩ | refine ⟨_, ⟨cc, rfl, rfl, csq⟩, hK _ (nz ?_)⟩); clear hK KK) | (refine ⟨by first | exact eq_hop, ?_⟩; (first | refine hK _ _ ?_ | refine hK _ (nz ?_)); clear hK KK) | ((repeat refine And.intro (by first | omega | (rw [getD_map_lt (by omega)]; rfl) | (simp; first | done | omega)) ?_); first | (refine hK _ _ ?_; clear hK KK) | (refine hK _ ?_; clear hK KK; try simp only [upd_mk]))) | ((with_reducible first | refine o_nil (hT _ _ ?_) | refine h_nil (hT _ ?_)); clear hT KT) | ((first | refine gd fun AA BB hA hB => ?_ | refine tc fun AA BB hA hB => ?_); first | (refine go ?_; (first | refine hA ?_ | refine hB ?_); clear hA hB AA BB) | (refine go2 ?_ ?_ <;> intro hb <;> (first | refine hA ?_ | refine hB ?_) <;> clear hA hB AA BB <;> (try simp only [hb, decide_true, decide_false]) <;> (try (exfalso; first | (simp at hb; done) | (simp at hb; omega))))) | (with_reducible refine skS ?_; simp only [upd_mk]) | with_reducible refine tdr fun KT hT => ?_ | with_reducible refine bY ?_)
           all_goals clear fx)
          (refine fo [1039] ?_; try exact trivial)
          exact ⟨rfl, rfl, by simp⟩
    · have hk : extOk t p s r inn out = false := by rw [extOk, b1, b2]; rfl
      rw [hk]
      simp only [extHops, Bool.false_eq_true, if_false]
      refine acall_mk Tryz.func7 rfl Tryz.ntmps7 Tryz.results7 (by kernel_rfl) (by simp) ?_
      simp only [args, Nat.zero_add, Nat.reduceAdd]
      (have fx := And.intro (@b1) (@b2)
       repeat' (first | with_reducible refine go ?_ | with_reducible refine t_region fun KT hT => ?_ | (refine gp fun KK hK => ?_; first | ((with_reducible first | refine .inl ⟨_, _, ⟨cx, rfl, csq⟩, hK _ _ (nz ?_)⟩ | refine .inl ⟨_, _, ⟨l1In_s _ _ _, rfl, csq⟩, hK _ _ (nz ?_)⟩ | refine .inl ⟨_, _, ⟨cc, rfl, csq⟩, hK _ _ (nz ?_)⟩ | refine ⟨_, ⟨cx, rfl, rfl, csq⟩, hK _ (nz ?_)⟩ | refine ⟨_, ⟨l1In_s _ _ _, rfl, rfl, csq⟩, hK _ (nz ?_)⟩ | refine ⟨_, ⟨cc, rfl, rfl, csq⟩, hK _ (nz ?_)⟩); clear hK KK) | (refine ⟨by first | exact eq_hop, ?_⟩; (first | refine hK _ _ ?_ | refine hK _ (nz ?_)); clear hK KK) | ((repeat refine And.intro (by first | omega | (rw [getD_map_lt (by omega)]; rfl) | (simp; first | done | omega)) ?_); first | (refine hK _ _ ?_; clear hK KK) | (refine hK _ ?_; clear hK KK; try simp only [upd_mk]))) | ((with_reducible first | refine o_nil (hT _ _ ?_) | refine h_nil (hT _ ?_)); clear hT KT) | ((first | refine gd fun AA BB hA hB => ?_ | refine tc fun AA BB hA hB => ?_); first | (refine go ?_; (first | refine hA ?_ | refine hB ?_); clear hA hB AA BB) | (refine go2 ?_ ?_ <;> intro hb <;> (first | refine hA ?_ | refine hB ?_) <;> clear hA hB AA BB <;> (try simp only [hb, decide_true, decide_false]) <;> (try (exfalso; first | (simp at hb; done) | (simp at hb; omega))))) | (with_reducible refine skS ?_; simp only [upd_mk]) | with_reducible refine tdr fun KT hT => ?_ | with_reducible refine bY ?_)
       all_goals clear fx)
      (refine fo [1039] ?_; try exact trivial)
      exact ⟨rfl, rfl, by simp⟩
  · have hk : extOk t p s r inn out = false := by rw [extOk, b1]; rfl
    rw [hk]
    simp only [extHops, Bool.false_eq_true, if_false]
    refine acall_mk Tryz.func7 rfl Tryz.ntmps7 Tryz.results7 (by kernel_rfl) (by simp) ?_
    simp only [args, Nat.zero_add, Nat.reduceAdd]
    (have fx := (@b1)
     repeat' (first | with_reducible refine go ?_ | with_reducible refine t_region fun KT hT => ?_ | (refine gp fun KK hK => ?_; first | ((with_reducible first | refine .inl ⟨_, _, ⟨cx, rfl, csq⟩, hK _ _ (nz ?_)⟩ | refine .inl ⟨_, _, ⟨cc, rfl, csq⟩, hK _ _ (nz ?_)⟩ | refine ⟨_, ⟨cx, rfl, rfl, csq⟩, hK _ (nz ?_)⟩ | refine ⟨_, ⟨cc, rfl, rfl, csq⟩, hK _ (nz ?_)⟩); clear hK KK) | (refine ⟨by first | exact eq_hop, ?_⟩; (first | refine hK _ _ ?_ | refine hK _ (nz ?_)); clear hK KK) | ((repeat refine And.intro (by first | omega | (rw [getD_map_lt (by omega)]; rfl) | (simp; first | done | omega)) ?_); first | (refine hK _ _ ?_; clear hK KK) | (refine hK _ ?_; clear hK KK; try simp only [upd_mk]))) | ((with_reducible first | refine o_nil (hT _ _ ?_) | refine h_nil (hT _ ?_)); clear hT KT) | ((first | refine gd fun AA BB hA hB => ?_ | refine tc fun AA BB hA hB => ?_); first | (refine go ?_; (first | refine hA ?_ | refine hB ?_); clear hA hB AA BB) | (refine go2 ?_ ?_ <;> intro hb <;> (first | refine hA ?_ | refine hB ?_) <;> clear hA hB AA BB <;> (try simp only [hb, decide_true, decide_false]) <;> (try (exfalso; first | (simp at hb; done) | (simp at hb; omega))))) | (with_reducible refine skS ?_; simp only [upd_mk]) | with_reducible refine tdr fun KT hT => ?_ | with_reducible refine bY ?_)
     all_goals clear fx)
    (refine fo [1039] ?_; try exact trivial)
    exact ⟨rfl, rfl, by simp⟩

end Go.Proofs.YtmiclkgkfkcnoaaGreat
