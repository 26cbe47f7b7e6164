/- The walk of the law FnExtends. -/
import Derived.Test.YtmiclkgkfkcnoaaGreatRows
import Derived.WalkKit
import Derived.ProofKit
import Derived.OpenShut
import Derived.ShutString
import Derived.ChangeOld
import Derived.Below
import Derived.Test.YtmiclkgkfkcnoaaGreatLw1
import Derived.Test.YtmiclkgkfkcnoaaGreatLzc1
import Derived.Test.YtmiclkgkfkcnoaaGreatLzq2
namespace Go.Proofs.YtmiclkgkfkcnoaaGreat
open Go.ChangeShapes Go.WideShapes Go.ChangeAt Go.RowKit
open Go.ChangeMaps (open_string shut_string)
set_option linter.unusedVariables false
set_option linter.unusedSimpArgs false
set_option maxRecDepth 100000
set_option linter.defProp false
set_option synthInstance.maxHeartbeats 2000000
namespace GWFnExtends
def gx := And.intro (@hopRow.eq_1) (And.intro (@polRow.eq_1) (And.intro (@segRow.eq_1) (And.intro (@intRow.eq_1) (And.intro (@rowLen_ints) (And.intro (@rowLen_nil) (And.intro (@rowLen_cons) (And.intro (@rowLen_append) (And.intro (@lenL_app) (And.intro (@byteRow.eq_1) (And.intro (@rowLen_bytes) (And.intro (@bytesOf_map) (And.intro (@bytesOf_cons) (And.intro (@bytesOf_one) (And.intro (@rowLen_strs) (And.intro (@asRow.eq_1) (And.intro (@lkRow.eq_1) (And.intro (@tpRow.eq_1) (And.intro (@rowLen_hops) (And.intro (@rowLen_ases) (And.intro (@rowLen_links) (And.intro (@bcRow.eq_1) (And.intro (@rowLen_bcs) (@u8Row.eq_1)))))))))))))))))))))))
end GWFnExtends
open GWFnExtends

set_option maxHeartbeats 8000000 in
theorem fnExtends_law {x0 : D} (i0 : IsC (.slice [.int .u8]) x0) : ACall Tryz.prog 3 [x0] (.bool true) [] := by
  
  obtain ⟨b, rfl, hm⟩ := isBytes i0
  by_cases hl : b.length ≤ 1048576
  · have e0 : decide ((1048576 : Int) < (b.length : Int)) = false := decide_eq_false (by omega)
    have cb := big_ok b
    rw [e0] at cb
    refine acall_mk Tryz.func3 rfl Tryz.ntmps3 Tryz.results3 (by kernel_rfl) (by simp) ?_
    simp only [args, Nat.zero_add, Nat.reduceAdd]
    repeat' (first | with_reducible refine go ?_ | with_reducible refine t_region fun KT hT => ?_ | (refine gp fun KK hK => ?_; first | ((with_reducible first | refine .inl ⟨_, _, ⟨cb, rfl, csq⟩, hK _ _ (nz ?_)⟩ | refine ⟨_, ⟨cb, rfl, rfl, csq⟩, hK _ (nz ?_)⟩); clear hK KK) | (refine ⟨by first | exact eq_hop | exact eq_pol, ?_⟩; (first | refine hK _ _ ?_ | refine hK _ (nz ?_)); clear hK KK) | ((repeat refine And.intro (by first | omega | (rw [getD_map_lt (by omega)]; rfl) | (simp; first | done | omega)) ?_); first | (refine hK _ _ ?_; clear hK KK) | (refine hK _ ?_; clear hK KK; try simp only [upd_mk]))) | ((with_reducible first | refine o_nil (hT _ _ ?_) | refine h_nil (hT _ ?_)); clear hT KT) | ((first | refine gd fun AA BB hA hB => ?_ | refine tc fun AA BB hA hB => ?_); first | (refine go ?_; (first | refine hA ?_ | refine hB ?_); clear hA hB AA BB) | (refine go2 ?_ ?_ <;> intro hb <;> (first | refine hA ?_ | refine hB ?_) <;> clear hA hB AA BB <;> (try simp only [hb, decide_true, decide_false]) <;> (try (exfalso; first | (simp at hb; done) | (simp at hb; omega))))) | (with_reducible refine skS ?_; simp only [upd_mk]) | with_reducible refine tdr fun KT hT => ?_ | with_reducible refine bY ?_)
    (refine gp fun KK hK => ?_; refine .inr (.inr (eQ [] (drawXt_e b hl) (fun x1 hx1 => hK _ _ ?_))); refine nze ?_; clear hK KK)
    obtain ⟨t, p, s, r, inn, out⟩ := x1
    obtain ⟨ht, hp, hs⟩ := hx1
    simp only at ht hp hs
    have t1 : t.ases.length ≤ 1048576 := by have := ht.n8; omega
    have t2 : t.links.length ≤ 1048576 := by have := ht.ln; omega
    have c1 := (ext_i t p s r inn out t1 t2 (by omega)).ro
    have c2 := (ext_s t p s r inn out t1 t2 (by omega)).ro
    simp only [view, viewL, tabOf, List.getElem?_cons_zero, Option.map_some] at c1 c2
    have hXl := extHops_len t p s r inn out (extOk t p s r inn out)
    generalize hO : extOk t p s r inn out = ok at *
    generalize hX : extHops t p s r inn out ok = X at *
    repeat' (first | with_reducible refine go ?_ | with_reducible refine t_region fun KT hT => ?_ | (refine gp fun KK hK => ?_; first | ((with_reducible first | refine .inl ⟨_, _, ⟨c1, rfl, csq⟩, hK _ _ (nz ?_)⟩ | refine .inl ⟨_, _, ⟨c2, rfl, csq⟩, hK _ _ (nz ?_)⟩ | refine ⟨_, ⟨c1, rfl, rfl, csq⟩, hK _ (nz ?_)⟩ | refine ⟨_, ⟨c2, rfl, rfl, csq⟩, hK _ (nz ?_)⟩); clear hK KK) | (refine ⟨by first | exact eq_hop | exact eq_pol, ?_⟩; (first | refine hK _ _ ?_ | refine hK _ (nz ?_)); clear hK KK) | ((repeat refine And.intro (by first | omega | (rw [getD_map_lt (by omega)]; rfl) | (simp; first | done | omega)) ?_); first | (refine hK _ _ ?_; clear hK KK) | (refine hK _ ?_; clear hK KK; try simp only [upd_mk]))) | ((with_reducible first | refine o_nil (hT _ _ ?_) | refine h_nil (hT _ ?_)); clear hT KT) | ((first | refine gd fun AA BB hA hB => ?_ | refine tc fun AA BB hA hB => ?_); first | (refine go ?_; (first | refine hA ?_ | refine hB ?_); clear hA hB AA BB) | (refine go2 ?_ ?_ <;> intro hb <;> (first | refine hA ?_ | refine hB ?_) <;> clear hA hB AA BB <;> (try simp only [hb, decide_true, decide_false]) <;> (try (exfalso; first | (simp at hb; done) | (simp at hb; omega))))) | (with_reducible refine skS ?_; simp only [upd_mk]) | with_reducible refine tdr fun KT hT => ?_ | with_reducible refine bY ?_)
    (refine gp fun KK hK => ?_; refine .inr (.inr (eQ [] (drawCE_e b hl) (fun x2 hx2 => hK _ _ ?_))); refine nze ?_; clear hK KK)
    obtain ⟨u, a, k, j⟩ := x2
    obtain ⟨hu, ha⟩ := hx2
    simp only at hu ha
    repeat' (first | with_reducible refine go ?_ | with_reducible refine t_region fun KT hT => ?_ | (refine gp fun KK hK => ?_; first | (refine ⟨by first | exact eq_hop | exact eq_pol, ?_⟩; (first | refine hK _ _ ?_ | refine hK _ (nz ?_)); clear hK KK) | ((repeat refine And.intro (by first | omega | (rw [getD_map_lt (by omega)]; rfl) | (simp; first | done | omega)) ?_); first | (refine hK _ _ ?_; clear hK KK) | (refine hK _ ?_; clear hK KK; try simp only [upd_mk]))) | ((with_reducible first | refine o_nil (hT _ _ ?_) | refine h_nil (hT _ ?_)); clear hT KT) | ((first | refine gd fun AA BB hA hB => ?_ | refine tc fun AA BB hA hB => ?_); first | (refine go ?_; (first | refine hA ?_ | refine hB ?_); clear hA hB AA BB) | (refine go2 ?_ ?_ <;> intro hb <;> (first | refine hA ?_ | refine hB ?_) <;> clear hA hB AA BB <;> (try simp only [hb, decide_true, decide_false]) <;> (try (exfalso; first | (simp at hb; done) | (simp at hb; omega))))) | (with_reducible refine skS ?_; simp only [upd_mk]) | with_reducible refine tdr fun KT hT => ?_ | with_reducible refine bY ?_)
    (refine gp fun KK hK => ?_; refine .inr (.inr (eQ [] (drawEg_e b hl) (fun x3 hx3 => hK _ _ ?_))); refine nze ?_; clear hK KK)
    obtain ⟨v, w, d, m, n⟩ := x3
    obtain ⟨hvt, hd⟩ := hx3
    simp only at hvt hd
    have u1 : u.ases.length ≤ 1048576 := by have := hu.n8; omega
    have u2 : u.links.length ≤ 1048576 := by have := hu.ln; omega
    have v1 : v.ases.length ≤ 1048576 := by have := hvt.n8; omega
    have v2 : v.links.length ≤ 1048576 := by have := hvt.ln; omega
    have k1 := sameSeg_l ⟨s.ts, s.beta, X⟩ ⟨s.ts, s.beta, X⟩ (by simp only; omega)
    have k2 := canExt_i u a k j u1 u2 (by omega)
    have k3 := canExt_s u a k j u1 u2 (by omega)
    have k4 := (egr_i v w d m n v1 v2 (by omega)).ro
    have k5 := (egr_s v w d m n v1 v2 (by omega)).ro
    have k6 := sameInts_ok (egrIfs v w d m n 6) (egrIfs v w d m n 6) (by have := egrIfs_len v w d m n 6; omega)
    simp only [view, viewL, tabOf, List.getElem?_cons_zero, Option.map_some] at k4 k5
    simp only [decide_true] at k1 k6
    generalize canExt u a k j = y1 at *
    generalize egrIfs v w d m n 6 = y2 at *
    cases ok with
    | false =>
      have eX : X = s.hops := by rw [← hX, extHops, if_neg (by simp)]
      have d1 := sameSeg_l ⟨s.ts, s.beta, X⟩ s (by simp only; omega)
      have d2 : decide ((⟨s.ts, s.beta, X⟩ : Sg) = s) = true := by rw [eX]; exact decide_eq_true rfl
      rw [d2] at d1
      (have fx := (@bnB)
       repeat' (first | with_reducible refine go ?_ | with_reducible refine t_region fun KT hT => ?_ | (refine gp fun KK hK => ?_; first | ((with_reducible first | refine .inl ⟨_, _, ⟨k1, rfl, csq⟩, hK _ _ (nz ?_)⟩ | refine .inl ⟨_, _, ⟨k2, rfl, csq⟩, hK _ _ (nz ?_)⟩ | refine .inl ⟨_, _, ⟨k3, rfl, csq⟩, hK _ _ (nz ?_)⟩ | refine .inl ⟨_, _, ⟨k4, rfl, csq⟩, hK _ _ (nz ?_)⟩ | refine .inl ⟨_, _, ⟨k5, rfl, csq⟩, hK _ _ (nz ?_)⟩ | refine .inl ⟨_, _, ⟨k6, rfl, csq⟩, hK _ _ (nz ?_)⟩ | refine .inl ⟨_, _, ⟨d1, rfl, csq⟩, hK _ _ (nz ?_)⟩ | refine ⟨_, ⟨k1, rfl, rfl, csq⟩, hK _ (nz ?_)⟩ | refine ⟨_, ⟨k2, rfl, rfl, csq⟩, hK _ (nz ?_)⟩ | refine ⟨_, ⟨k3, rfl, rfl, csq⟩, hK _ (nz ?_)⟩ | refine ⟨_, ⟨k4, rfl, rfl, csq⟩, hK _ (nz ?_)⟩ | refine ⟨_, ⟨k5, rfl, rfl, csq⟩, hK _ (nz ?_)⟩ | refine ⟨_, ⟨k6, rfl, rfl, csq⟩, hK _ (nz ?_)⟩ | refine ⟨_, ⟨d1, rfl, rfl, csq⟩, hK _ (nz ?_)⟩); clear hK KK) | (refine ⟨by first | exact eq_hop | exact eq_pol, ?_⟩; (first | refine hK _ _ ?_ | refine hK _ (nz ?_)); clear hK KK) | ((repeat refine And.intro (by first | omega | (rw [getD_map_lt (by omega)]; rfl) | (simp; first | done | omega)) ?_); first | (refine hK _ _ ?_; clear hK KK) | (refine hK _ ?_; clear hK KK; try simp only [upd_mk]))) | ((with_reducible first | refine o_nil (hT _ _ ?_) | refine h_nil (hT _ ?_)); clear hT KT) | ((first | refine gd fun AA BB hA hB => ?_ | refine tc fun AA BB hA hB => ?_); first | (refine go ?_; (first | refine hA ?_ | refine hB ?_); clear hA hB AA BB) | (refine go2 ?_ ?_ <;> intro hb <;> (first | refine hA ?_ | refine hB ?_) <;> clear hA hB AA BB <;> (try simp only [hb, decide_true, decide_false]) <;> (try (exfalso; first | (simp at hb; done) | (simp at hb; omega))))) | (with_reducible refine skS ?_; simp only [upd_mk]) | (refine tdr (id := 8) fun KT hT => ?_; simp only [List.append_eq, List.cons_append, List.nil_append]) | with_reducible refine tdr fun KT hT => ?_ | with_reducible refine bY ?_)
       all_goals clear fx)
      (refine fe ?_; try exact trivial)
    | true =>
      obtain ⟨g1, g2, g3, g4⟩ := ext_ok ht hp hO
      have eX : X = s.hops ++ [newHop t p s r inn out] := by rw [← hX, extHops, if_pos rfl]; rfl
      have eG : (⟨s.ts, s.beta, X⟩ : Sg) = grownS t p s r inn out := by rw [eX]; rfl
      have d1 := canExt_i t s r inn t1 t2 (by omega)
      have d2 := validSeg_i t ⟨s.ts, s.beta, X⟩ t1 t2 (by simp only; omega)
      have d3 := sameHops_l (X.take s.hops.length) s.hops (by simp only [List.length_take]; omega)
      have d4 := lastAS_i ⟨s.ts, s.beta, X⟩ (by simp only; omega)
      have d5 := segKind_i t ⟨s.ts, s.beta, X⟩ t1 t2 (by simp only; omega)
      have d6 := segKind_i t s t1 t2 (by omega)
      have d7 := allows_i p s out (by omega)
      rw [g1] at d1
      rw [eG, Vs_valid g4, ← eG] at d2
      rw [show X.take s.hops.length = s.hops by rw [eX]; simp, decide_eq_true rfl] at d3
      rw [eG, lastAS_grown, ← eG] at d4
      rw [eG, Vs_kind g4, ← eG] at d5
      rw [g2] at d7
      have f1 : decide ((X.length : Int) ≤ p.ml) = true := decide_eq_true (by
        have := allows_len g2
        rw [eX, List.length_append, List.length_cons, List.length_nil]; omega)
      have f2 : s.hops.length ≤ X.length := by rw [eX]; simp
      have f3 : (X.map hopRow).take s.hops.length = s.hops.map hopRow := by rw [eX]; simp
      generalize segKind t s = y3 at *
      simp only [segRow] at d2 d4 d5
      (have fx := And.intro (@bnB) (And.intro (@f1) (And.intro (@f2) (And.intro (@f3) (And.intro (@Nat.zero_le) (@beqI_self)))))
       repeat' (first | with_reducible refine go ?_ | with_reducible refine t_region fun KT hT => ?_ | (refine gp fun KK hK => ?_; first | ((with_reducible first | refine .inl ⟨_, _, ⟨k1, rfl, csq⟩, hK _ _ (nz ?_)⟩ | refine .inl ⟨_, _, ⟨k2, rfl, csq⟩, hK _ _ (nz ?_)⟩ | refine .inl ⟨_, _, ⟨k3, rfl, csq⟩, hK _ _ (nz ?_)⟩ | refine .inl ⟨_, _, ⟨k4, rfl, csq⟩, hK _ _ (nz ?_)⟩ | refine .inl ⟨_, _, ⟨k5, rfl, csq⟩, hK _ _ (nz ?_)⟩ | refine .inl ⟨_, _, ⟨k6, rfl, csq⟩, hK _ _ (nz ?_)⟩ | refine .inl ⟨_, _, ⟨d1, rfl, csq⟩, hK _ _ (nz ?_)⟩ | refine .inl ⟨_, _, ⟨d2, rfl, csq⟩, hK _ _ (nz ?_)⟩ | refine .inl ⟨_, _, ⟨d3, rfl, csq⟩, hK _ _ (nz ?_)⟩ | refine .inl ⟨_, _, ⟨d4, rfl, csq⟩, hK _ _ (nz ?_)⟩ | refine .inl ⟨_, _, ⟨d5, rfl, csq⟩, hK _ _ (nz ?_)⟩ | refine .inl ⟨_, _, ⟨d6, rfl, csq⟩, hK _ _ (nz ?_)⟩ | refine .inl ⟨_, _, ⟨d7, rfl, csq⟩, hK _ _ (nz ?_)⟩ | refine ⟨_, ⟨k1, rfl, rfl, csq⟩, hK _ (nz ?_)⟩ | refine ⟨_, ⟨k2, rfl, rfl, csq⟩, hK _ (nz ?_)⟩ | refine ⟨_, ⟨k3, rfl, rfl, csq⟩, hK _ (nz ?_)⟩ | refine ⟨_, ⟨k4, rfl, rfl, csq⟩, hK _ (nz ?_)⟩ | refine ⟨_, ⟨k5, rfl, rfl, csq⟩, hK _ (nz ?_)⟩ | refine ⟨_, ⟨k6, rfl, rfl, csq⟩, hK _ (nz ?_)⟩ | refine ⟨_, ⟨d1, rfl, rfl, csq⟩, hK _ (nz ?_)⟩ | refine ⟨_, ⟨d2, rfl, rfl, csq⟩, hK _ (nz ?_)⟩ | refine ⟨_, ⟨d3, rfl, rfl, csq⟩, hK _ (nz ?_)⟩ | refine ⟨_, ⟨d4, rfl, rfl, csq⟩, hK _ (nz ?_)⟩ | refine ⟨_, ⟨d5, rfl, rfl, csq⟩, hK _ (nz ?_)⟩ | refine ⟨_, ⟨d6, rfl, rfl, csq⟩, hK _ (nz ?_)⟩ | refine ⟨_, ⟨d7, rfl, rfl, csq⟩, hK _ (nz ?_)⟩); clear hK KK) | (refine ⟨by first | exact eq_hop | exact eq_pol, ?_⟩; (first | refine hK _ _ ?_ | refine hK _ (nz ?_)); clear hK KK) | ((repeat refine And.intro (by first | omega | (rw [getD_map_lt (by omega)]; rfl) | (simp; first | done | omega)) ?_); first | (refine hK _ _ ?_; clear hK KK) | (refine hK _ ?_; clear hK KK; try simp only [upd_mk]))) | ((with_reducible first | refine o_nil (hT _ _ ?_) | refine h_nil (hT _ ?_)); clear hT KT) | ((first | refine gd fun AA BB hA hB => ?_ | refine tc fun AA BB hA hB => ?_); first | (refine go ?_; (first | refine hA ?_ | refine hB ?_); clear hA hB AA BB) | (refine go2 ?_ ?_ <;> intro hb <;> (first | refine hA ?_ | refine hB ?_) <;> clear hA hB AA BB <;> (try simp only [hb, decide_true, decide_false]) <;> (try (exfalso; first | (simp at hb; done) | (simp at hb; omega))))) | (with_reducible refine skS ?_; simp only [upd_mk]) | (refine tdr (id := 8) fun KT hT => ?_; simp only [List.append_eq, List.cons_append, List.nil_append]) | (refine tdr (id := 12) fun KT hT => ?_; simp only [List.append_eq, List.cons_append, List.nil_append]) | with_reducible refine tdr fun KT hT => ?_ | with_reducible refine bY ?_)
       all_goals clear fx)
      (refine fe ?_; try exact trivial)
  · have cb := big_ok b
    have e0 : decide ((1048576 : Int) < (b.length : Int)) = true := decide_eq_true (by omega)
    rw [e0] at cb
    refine acall_mk Tryz.func3 rfl Tryz.ntmps3 Tryz.results3 (by kernel_rfl) (by simp) ?_
    simp only [args, Nat.zero_add, Nat.reduceAdd]
    repeat' (first | with_reducible refine go ?_ | with_reducible refine t_region fun KT hT => ?_ | (refine gp fun KK hK => ?_; first | ((with_reducible first | refine .inl ⟨_, _, ⟨cb, rfl, csq⟩, hK _ _ (nz ?_)⟩ | refine ⟨_, ⟨cb, rfl, rfl, csq⟩, hK _ (nz ?_)⟩); clear hK KK) | (refine ⟨by first | exact eq_hop | exact eq_pol, ?_⟩; (first | refine hK _ _ ?_ | refine hK _ (nz ?_)); clear hK KK) | ((repeat refine And.intro (by first | omega | (rw [getD_map_lt (by omega)]; rfl) | (simp; first | done | omega)) ?_); first | (refine hK _ _ ?_; clear hK KK) | (refine hK _ ?_; clear hK KK; try simp only [upd_mk]))) | ((with_reducible first | refine o_nil (hT _ _ ?_) | refine h_nil (hT _ ?_)); clear hT KT) | ((first | refine gd fun AA BB hA hB => ?_ | refine tc fun AA BB hA hB => ?_); first | (refine go ?_; (first | refine hA ?_ | refine hB ?_); clear hA hB AA BB) | (refine go2 ?_ ?_ <;> intro hb <;> (first | refine hA ?_ | refine hB ?_) <;> clear hA hB AA BB <;> (try simp only [hb, decide_true, decide_false]) <;> (try (exfalso; first | (simp at hb; done) | (simp at hb; omega))))) | (with_reducible refine skS ?_; simp only [upd_mk]) | with_reducible refine tdr fun KT hT => ?_ | with_reducible refine bY ?_)
    (refine fe ?_; try exact trivial)

end Go.Proofs.YtmiclkgkfkcnoaaGreat
