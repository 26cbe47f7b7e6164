/- The walk of the law FnKeeps. -/
import Derived.Test.YtmiclkgkfkcnoaaRows
import Derived.WalkKit
import Derived.ProofKit
import Derived.OpenShut
import Derived.ShutString
import Derived.ChangeOld
import Derived.Below
import Derived.Test.YtmiclkgkfkcnoaaLzc1
import Derived.Test.YtmiclkgkfkcnoaaLzv2
import Derived.Test.YtmiclkgkfkcnoaaLD
namespace Go.Proofs.Ytmiclkgkfkcnoaa
open Go.ChangeShapes Go.WideShapes Go.ChangeAt Go.RowKit
open Go.ChangeMaps (open_string shut_string)
set_option linter.unusedVariables false
set_option linter.unusedSimpArgs false
set_option maxRecDepth 100000
set_option linter.defProp false
set_option synthInstance.maxHeartbeats 2000000
namespace GWFnKeeps
def gx := And.intro (@hopRow.eq_1) (And.intro (@polRow.eq_1) (And.intro (@segRow.eq_1) (And.intro (@intRow.eq_1) (And.intro (@rowLen_ints) (And.intro (@rowLen_nil) (And.intro (@rowLen_cons) (And.intro (@rowLen_append) (And.intro (@lenL_app) (And.intro (@byteRow.eq_1) (And.intro (@rowLen_bytes) (And.intro (@bytesOf_map) (And.intro (@bytesOf_cons) (And.intro (@bytesOf_one) (And.intro (@rowLen_strs) (And.intro (@asRow.eq_1) (And.intro (@lkRow.eq_1) (And.intro (@tpRow.eq_1) (And.intro (@rowLen_hops) (And.intro (@rowLen_ases) (And.intro (@rowLen_links) (And.intro (@bcRow.eq_1) (And.intro (@rowLen_bcs) (@u8Row.eq_1)))))))))))))))))))))))
end GWFnKeeps
open GWFnKeeps

set_option maxHeartbeats 8000000 in
theorem fnKeeps_law {x0 : D} (i0 : IsC (.slice [.int .u8]) x0) : ACall Try.prog 3 [x0] (.bool true) [] := by
  
  obtain ⟨b, rfl, hm⟩ := isBytes i0
  by_cases hl : b.length ≤ 1048576
  · have e0 : decide ((1048576 : Int) < (b.length : Int)) = false := decide_eq_false (by omega)
    have cb := big_ok b
    rw [e0] at cb
    refine acall_mk Try.func3 rfl Try.ntmps3 Try.results3 (by kernel_rfl) (by simp) ?_
    simp only [args, Nat.zero_add, Nat.reduceAdd]
    repeat' (first | with_reducible refine go ?_ | with_reducible refine t_region fun KT hT => ?_ | (refine gp fun KK hK => ?_; first | ((with_reducible first | refine .inl ⟨_, _, ⟨cb, rfl, csq⟩, hK _ _ (nz ?_)⟩ | refine ⟨_, ⟨cb, rfl, rfl, csq⟩, hK _ (nz ?_)⟩); clear hK KK) | (refine ⟨by first | exact eq_hop | exact eq_pol, ?_⟩; (first | refine hK _ _ ?_ | refine hK _ (nz ?_)); clear hK KK) | ((repeat refine And.intro (by first | omega | (rw [getD_map_lt (by omega)]; rfl) | (simp; first | done | omega)) ?_); first | (refine hK _ _ ?_; clear hK KK) | (refine hK _ ?_; clear hK KK; try simp only [upd_mk]))) | ((with_reducible first | refine o_nil (hT _ _ ?_) | refine h_nil (hT _ ?_)); clear hT KT) | ((first | refine gd fun AA BB hA hB => ?_ | refine tc fun AA BB hA hB => ?_); first | (refine go ?_; (first | refine hA ?_ | refine hB ?_); clear hA hB AA BB) | (refine go2 ?_ ?_ <;> intro hb <;> (first | refine hA ?_ | refine hB ?_) <;> clear hA hB AA BB <;> (try simp only [hb, decide_true, decide_false]) <;> (try (exfalso; first | (simp at hb; done) | (simp at hb; omega))))) | (with_reducible refine skS ?_; simp only [upd_mk]) | with_reducible refine tdr fun KT hT => ?_ | with_reducible refine bY ?_)
    (refine gp fun KK hK => ?_; refine .inr (.inr (eQ [] (drawSB_e b hl) (fun x1 hx1 => hK _ _ ?_))); refine nze ?_; clear hK KK)
    obtain ⟨t, r, l, g⟩ := x1
    obtain ⟨ht, hB, hg⟩ := hx1
    simp only at ht hB hg
    have hB1 := hB.len
    have hB2 : ∀ x ∈ l, x.seg.hops.length ≤ 1024 := fun x hx => by have := hB.hop x hx; omega
    have t1 : t.ases.length ≤ 1048576 := by have := ht.n8; omega
    have t2 : t.links.length ≤ 1048576 := by have := ht.ln; omega
    have k1 := (storeB_i t r l g t1 t2 (by omega) hB2 (by omega)).ro
    have k2 := (storeB_s t r l g t1 t2 (by omega) hB2 (by omega)).ro
    simp only [view, viewL, tabOf, List.getElem?_cons_zero, Option.map_some] at k1 k2
    repeat' (first | with_reducible refine go ?_ | with_reducible refine t_region fun KT hT => ?_ | (refine gp fun KK hK => ?_; first | ((with_reducible first | refine .inl ⟨_, _, ⟨k1, rfl, csq⟩, hK _ _ (nz ?_)⟩ | refine ⟨_, ⟨k1, rfl, rfl, csq⟩, hK _ (nz ?_)⟩); clear hK KK) | (refine ⟨by first | exact eq_hop | exact eq_pol, ?_⟩; (first | refine hK _ _ ?_ | refine hK _ (nz ?_)); clear hK KK) | ((repeat refine And.intro (by first | omega | (rw [getD_map_lt (by omega)]; rfl) | (simp; first | done | omega)) ?_); first | (refine hK _ _ ?_; clear hK KK) | (refine hK _ ?_; clear hK KK; try simp only [upd_mk]))) | ((with_reducible first | refine o_nil (hT _ _ ?_) | refine h_nil (hT _ ?_)); clear hT KT) | ((first | refine gd fun AA BB hA hB => ?_ | refine tc fun AA BB hA hB => ?_); first | (refine go ?_; (first | refine hA ?_ | refine hB ?_); clear hA hB AA BB) | (refine go2 ?_ ?_ <;> intro hb <;> (first | refine hA ?_ | refine hB ?_) <;> clear hA hB AA BB <;> (try simp only [hb, decide_true, decide_false]) <;> (try (exfalso; first | (simp at hb; done) | (simp at hb; omega))))) | (with_reducible refine skS ?_; simp only [upd_mk]) | with_reducible refine tdr fun KT hT => ?_ | with_reducible refine bY ?_)
    (refine gp fun KK hK => ?_; refine .inr (.inr (eQ [] (drawVS_e b hl) (fun x2 hx2 => hK _ _ ?_))); refine nze ?_; clear hK KK)
    obtain ⟨u, k, m⟩ := x2
    obtain ⟨hu, hm8⟩ := hx2
    simp only at hu hm8
    repeat' (first | with_reducible refine go ?_ | with_reducible refine t_region fun KT hT => ?_ | (refine gp fun KK hK => ?_; first | (refine ⟨by first | exact eq_hop | exact eq_pol, ?_⟩; (first | refine hK _ _ ?_ | refine hK _ (nz ?_)); clear hK KK) | ((repeat refine And.intro (by first | omega | (rw [getD_map_lt (by omega)]; rfl) | (simp; first | done | omega)) ?_); first | (refine hK _ _ ?_; clear hK KK) | (refine hK _ ?_; clear hK KK; try simp only [upd_mk]))) | ((with_reducible first | refine o_nil (hT _ _ ?_) | refine h_nil (hT _ ?_)); clear hT KT) | ((first | refine gd fun AA BB hA hB => ?_ | refine tc fun AA BB hA hB => ?_); first | (refine go ?_; (first | refine hA ?_ | refine hB ?_); clear hA hB AA BB) | (refine go2 ?_ ?_ <;> intro hb <;> (first | refine hA ?_ | refine hB ?_) <;> clear hA hB AA BB <;> (try simp only [hb, decide_true, decide_false]) <;> (try (exfalso; first | (simp at hb; done) | (simp at hb; omega))))) | (with_reducible refine skS ?_; simp only [upd_mk]) | with_reducible refine tdr fun KT hT => ?_ | with_reducible refine bY ?_)
    (refine gp fun KK hK => ?_; refine .inr (.inr (eQ [] (drawPr_e b hl) (fun x3 hx3 => hK _ _ ?_))); refine nze ?_; clear hK KK)
    obtain ⟨a, c⟩ := x3
    obtain ⟨ha, hc⟩ := hx3
    simp only at ha hc
    have hm1 := hm8.len
    have u1 : u.ases.length ≤ 1048576 := by have := hu.n8; omega
    have u2 : u.links.length ≤ 1048576 := by have := hu.ln; omega
    have hS : Bl 9 8 (storeB t r l g) := Bl_store hB hg
    have hS1 := hS.len
    have hSz := Bl_szB hS (by omega) (by omega)
    have k3 := sameGots_l (storeB t r l g) (storeB t r l g) (by omega) (fun x hx => by have := hS.hop x hx; omega)
    have k4 := validStore_i u k m u1 u2 (by omega) (Bl_szB hm8 (by omega) (by omega))
    have k5 := validStore_s u k m u1 u2 (by omega) (Bl_szB hm8 (by omega) (by omega))
    have k6 := pref_i a c (by omega) (by omega)
    have k7 := pref_s a c (by omega) (by omega)
    have k8 := pref_i c a (by omega) (by omega)
    have k9 := pref_i a a (by omega) (by omega)
    simp only [decide_true] at k3
    rw [prefB_irr] at k9
    have d1 := validStore_i t r l t1 t2 (by omega) (Bl_szB hB (by omega) (by omega))
    have d2 := validStore_i t r (storeB t r l g) t1 t2 (by omega) hSz
    have d3 := canExt_i t g.seg r g.ing t1 t2 (by omega)
    have d4 := hasB_i (storeB t r l g) g (by omega) hSz
    have hV : validStore t r l = true → validStore t r (storeB t r l g) = true ∧ l.length ≤ (storeB t r l g).length ∧ (storeB t r l g).length ≤ l.length + 1 := fun q => storeB_ok q
    have hH : canExt t g.seg r g.ing = true → hasB (storeB t r l g) g = true := fun q => storeB_has q (by omega)
    have wl : IntKind.i64.wrap ((l.length : Int) + 1) = (l.length : Int) + 1 := wr64 (by omega) (by omega)
    have f1 : decide ((l.length : Int) < 12) = true := decide_eq_true (by omega)
    generalize storeB t r l g = x at *
    generalize validStore u k m = y1 at *
    generalize validStore t r x = y2 at *
    generalize hasB x g = y4 at *
    simp only [segRow] at d3
    simp only [bcRow] at d4
    have kA : prefB a c = true → prefB c a = false := fun q => prefB_asym q
    generalize prefB a c = z1 at *
    generalize prefB c a = z2 at *
    simp only [bcRow] at k6 k7 k8 k9
    cases hvs : validStore t r l with
    | false =>
      rw [hvs] at d1
      cases z1 with
      | true =>
        rw [kA rfl] at k8
        (have fx := (@bnB)
         repeat' (first | with_reducible refine go ?_ | with_reducible refine t_region fun KT hT => ?_ | (refine gp fun KK hK => ?_; first | ((with_reducible first | refine .inl ⟨_, _, ⟨k2, rfl, csq⟩, hK _ _ (nz ?_)⟩ | refine .inl ⟨_, _, ⟨k3, rfl, csq⟩, hK _ _ (nz ?_)⟩ | refine .inl ⟨_, _, ⟨k4, rfl, csq⟩, hK _ _ (nz ?_)⟩ | refine .inl ⟨_, _, ⟨k5, rfl, csq⟩, hK _ _ (nz ?_)⟩ | refine .inl ⟨_, _, ⟨k6, rfl, csq⟩, hK _ _ (nz ?_)⟩ | refine .inl ⟨_, _, ⟨k7, rfl, csq⟩, hK _ _ (nz ?_)⟩ | refine .inl ⟨_, _, ⟨k8, rfl, csq⟩, hK _ _ (nz ?_)⟩ | refine .inl ⟨_, _, ⟨k9, rfl, csq⟩, hK _ _ (nz ?_)⟩ | refine .inl ⟨_, _, ⟨d1, rfl, csq⟩, hK _ _ (nz ?_)⟩ | refine ⟨_, ⟨k2, rfl, rfl, csq⟩, hK _ (nz ?_)⟩ | refine ⟨_, ⟨k3, rfl, rfl, csq⟩, hK _ (nz ?_)⟩ | refine ⟨_, ⟨k4, rfl, rfl, csq⟩, hK _ (nz ?_)⟩ | refine ⟨_, ⟨k5, rfl, rfl, csq⟩, hK _ (nz ?_)⟩ | refine ⟨_, ⟨k6, rfl, rfl, csq⟩, hK _ (nz ?_)⟩ | refine ⟨_, ⟨k7, rfl, rfl, csq⟩, hK _ (nz ?_)⟩ | refine ⟨_, ⟨k8, rfl, rfl, csq⟩, hK _ (nz ?_)⟩ | refine ⟨_, ⟨k9, rfl, rfl, csq⟩, hK _ (nz ?_)⟩ | refine ⟨_, ⟨d1, rfl, rfl, csq⟩, hK _ (nz ?_)⟩); clear hK KK) | (refine ⟨by first | exact eq_hop | exact eq_pol, ?_⟩; (first | refine hK _ _ ?_ | refine hK _ (nz ?_)); clear hK KK) | ((repeat refine And.intro (by first | omega | (rw [getD_map_lt (by omega)]; rfl) | (simp; first | done | omega)) ?_); first | (refine hK _ _ ?_; clear hK KK) | (refine hK _ ?_; clear hK KK; try simp only [upd_mk]))) | ((with_reducible first | refine o_nil (hT _ _ ?_) | refine h_nil (hT _ ?_)); clear hT KT) | ((first | refine gd fun AA BB hA hB => ?_ | refine tc fun AA BB hA hB => ?_); first | (refine go ?_; (first | refine hA ?_ | refine hB ?_); clear hA hB AA BB) | (refine go2 ?_ ?_ <;> intro hb <;> (first | refine hA ?_ | refine hB ?_) <;> clear hA hB AA BB <;> (try simp only [hb, decide_true, decide_false]) <;> (try (exfalso; first | (simp at hb; done) | (simp at hb; omega))))) | (with_reducible refine skS ?_; simp only [upd_mk]) | (refine tdr (id := 7) fun KT hT => ?_; simp only [List.append_eq, List.cons_append, List.nil_append]) | with_reducible refine tdr fun KT hT => ?_ | with_reducible refine bY ?_)
         all_goals clear fx)
        (refine fe ?_; try exact trivial)
      | false =>
        (have fx := (@bnB)
         repeat' (first | with_reducible refine go ?_ | with_reducible refine t_region fun KT hT => ?_ | (refine gp fun KK hK => ?_; first | ((with_reducible first | refine .inl ⟨_, _, ⟨k2, rfl, csq⟩, hK _ _ (nz ?_)⟩ | refine .inl ⟨_, _, ⟨k3, rfl, csq⟩, hK _ _ (nz ?_)⟩ | refine .inl ⟨_, _, ⟨k4, rfl, csq⟩, hK _ _ (nz ?_)⟩ | refine .inl ⟨_, _, ⟨k5, rfl, csq⟩, hK _ _ (nz ?_)⟩ | refine .inl ⟨_, _, ⟨k6, rfl, csq⟩, hK _ _ (nz ?_)⟩ | refine .inl ⟨_, _, ⟨k7, rfl, csq⟩, hK _ _ (nz ?_)⟩ | refine .inl ⟨_, _, ⟨k9, rfl, csq⟩, hK _ _ (nz ?_)⟩ | refine .inl ⟨_, _, ⟨d1, rfl, csq⟩, hK _ _ (nz ?_)⟩ | refine ⟨_, ⟨k2, rfl, rfl, csq⟩, hK _ (nz ?_)⟩ | refine ⟨_, ⟨k3, rfl, rfl, csq⟩, hK _ (nz ?_)⟩ | refine ⟨_, ⟨k4, rfl, rfl, csq⟩, hK _ (nz ?_)⟩ | refine ⟨_, ⟨k5, rfl, rfl, csq⟩, hK _ (nz ?_)⟩ | refine ⟨_, ⟨k6, rfl, rfl, csq⟩, hK _ (nz ?_)⟩ | refine ⟨_, ⟨k7, rfl, rfl, csq⟩, hK _ (nz ?_)⟩ | refine ⟨_, ⟨k9, rfl, rfl, csq⟩, hK _ (nz ?_)⟩ | refine ⟨_, ⟨d1, rfl, rfl, csq⟩, hK _ (nz ?_)⟩); clear hK KK) | (refine ⟨by first | exact eq_hop | exact eq_pol, ?_⟩; (first | refine hK _ _ ?_ | refine hK _ (nz ?_)); clear hK KK) | ((repeat refine And.intro (by first | omega | (rw [getD_map_lt (by omega)]; rfl) | (simp; first | done | omega)) ?_); first | (refine hK _ _ ?_; clear hK KK) | (refine hK _ ?_; clear hK KK; try simp only [upd_mk]))) | ((with_reducible first | refine o_nil (hT _ _ ?_) | refine h_nil (hT _ ?_)); clear hT KT) | ((first | refine gd fun AA BB hA hB => ?_ | refine tc fun AA BB hA hB => ?_); first | (refine go ?_; (first | refine hA ?_ | refine hB ?_); clear hA hB AA BB) | (refine go2 ?_ ?_ <;> intro hb <;> (first | refine hA ?_ | refine hB ?_) <;> clear hA hB AA BB <;> (try simp only [hb, decide_true, decide_false]) <;> (try (exfalso; first | (simp at hb; done) | (simp at hb; omega))))) | (with_reducible refine skS ?_; simp only [upd_mk]) | (refine tdr (id := 7) fun KT hT => ?_; simp only [List.append_eq, List.cons_append, List.nil_append]) | with_reducible refine tdr fun KT hT => ?_ | with_reducible refine bY ?_)
         all_goals clear fx)
        (refine fe ?_; try exact trivial)
    | true =>
      rw [hvs] at d1
      obtain ⟨v1, v2, v3⟩ := hV hvs
      rw [v1] at d2
      have f2 : decide ((l.length : Int) ≤ (x.length : Int)) = true := decide_eq_true (by omega)
      have f3 : decide ((x.length : Int) ≤ (l.length : Int) + 1) = true := decide_eq_true (by omega)
      have dd : (canExt t g.seg r g.ing = true ∧ y4 = true) ∨ canExt t g.seg r g.ing = false := by
        rcases Bool.eq_false_or_eq_true (canExt t g.seg r g.ing) with q | q
        · exact .inl ⟨q, hH q⟩
        · exact .inr q
      cases z1 with
      | true =>
        rw [kA rfl] at k8
        rcases dd with ⟨q1, q2⟩ | q1
        · rw [q1] at d3
          rw [q2] at d4
          (have fx := And.intro (@bnB) (And.intro (@f1) (And.intro (@f2) (And.intro (@f3) (@wl))))
           repeat' (first | with_reducible refine go ?_ | with_reducible refine t_region fun KT hT => ?_ | (refine gp fun KK hK => ?_; first | ((with_reducible first | refine .inl ⟨_, _, ⟨k2, rfl, csq⟩, hK _ _ (nz ?_)⟩ | refine .inl ⟨_, _, ⟨k3, rfl, csq⟩, hK _ _ (nz ?_)⟩ | refine .inl ⟨_, _, ⟨k4, rfl, csq⟩, hK _ _ (nz ?_)⟩ | refine .inl ⟨_, _, ⟨k5, rfl, csq⟩, hK _ _ (nz ?_)⟩ | refine .inl ⟨_, _, ⟨k6, rfl, csq⟩, hK _ _ (nz ?_)⟩ | refine .inl ⟨_, _, ⟨k7, rfl, csq⟩, hK _ _ (nz ?_)⟩ | refine .inl ⟨_, _, ⟨k8, rfl, csq⟩, hK _ _ (nz ?_)⟩ | refine .inl ⟨_, _, ⟨k9, rfl, csq⟩, hK _ _ (nz ?_)⟩ | refine .inl ⟨_, _, ⟨d1, rfl, csq⟩, hK _ _ (nz ?_)⟩ | refine .inl ⟨_, _, ⟨d2, rfl, csq⟩, hK _ _ (nz ?_)⟩ | refine .inl ⟨_, _, ⟨d3, rfl, csq⟩, hK _ _ (nz ?_)⟩ | refine .inl ⟨_, _, ⟨d4, rfl, csq⟩, hK _ _ (nz ?_)⟩ | refine ⟨_, ⟨k2, rfl, rfl, csq⟩, hK _ (nz ?_)⟩ | refine ⟨_, ⟨k3, rfl, rfl, csq⟩, hK _ (nz ?_)⟩ | refine ⟨_, ⟨k4, rfl, rfl, csq⟩, hK _ (nz ?_)⟩ | refine ⟨_, ⟨k5, rfl, rfl, csq⟩, hK _ (nz ?_)⟩ | refine ⟨_, ⟨k6, rfl, rfl, csq⟩, hK _ (nz ?_)⟩ | refine ⟨_, ⟨k7, rfl, rfl, csq⟩, hK _ (nz ?_)⟩ | refine ⟨_, ⟨k8, rfl, rfl, csq⟩, hK _ (nz ?_)⟩ | refine ⟨_, ⟨k9, rfl, rfl, csq⟩, hK _ (nz ?_)⟩ | refine ⟨_, ⟨d1, rfl, rfl, csq⟩, hK _ (nz ?_)⟩ | refine ⟨_, ⟨d2, rfl, rfl, csq⟩, hK _ (nz ?_)⟩ | refine ⟨_, ⟨d3, rfl, rfl, csq⟩, hK _ (nz ?_)⟩ | refine ⟨_, ⟨d4, rfl, rfl, csq⟩, hK _ (nz ?_)⟩); clear hK KK) | (refine ⟨by first | exact eq_hop | exact eq_pol, ?_⟩; (first | refine hK _ _ ?_ | refine hK _ (nz ?_)); clear hK KK) | ((repeat refine And.intro (by first | omega | (rw [getD_map_lt (by omega)]; rfl) | (simp; first | done | omega)) ?_); first | (refine hK _ _ ?_; clear hK KK) | (refine hK _ ?_; clear hK KK; try simp only [upd_mk]))) | ((with_reducible first | refine o_nil (hT _ _ ?_) | refine h_nil (hT _ ?_)); clear hT KT) | ((first | refine gd fun AA BB hA hB => ?_ | refine tc fun AA BB hA hB => ?_); first | (refine go ?_; (first | refine hA ?_ | refine hB ?_); clear hA hB AA BB) | (refine go2 ?_ ?_ <;> intro hb <;> (first | refine hA ?_ | refine hB ?_) <;> clear hA hB AA BB <;> (try simp only [hb, decide_true, decide_false]) <;> (try (exfalso; first | (simp at hb; done) | (simp at hb; omega))))) | (with_reducible refine skS ?_; simp only [upd_mk]) | (refine tdr (id := 7) fun KT hT => ?_; simp only [List.append_eq, List.cons_append, List.nil_append]) | with_reducible refine tdr fun KT hT => ?_ | with_reducible refine bY ?_)
           all_goals clear fx)
          (refine fe ?_; try exact trivial)
        · rw [q1] at d3
          (have fx := And.intro (@bnB) (And.intro (@f1) (And.intro (@f2) (And.intro (@f3) (@wl))))
           repeat' (first | with_reducible refine go ?_ | with_reducible refine t_region fun KT hT => ?_ | (refine gp fun KK hK => ?_; first | ((with_reducible first | refine .inl ⟨_, _, ⟨k2, rfl, csq⟩, hK _ _ (nz ?_)⟩ | refine .inl ⟨_, _, ⟨k3, rfl, csq⟩, hK _ _ (nz ?_)⟩ | refine .inl ⟨_, _, ⟨k4, rfl, csq⟩, hK _ _ (nz ?_)⟩ | refine .inl ⟨_, _, ⟨k5, rfl, csq⟩, hK _ _ (nz ?_)⟩ | refine .inl ⟨_, _, ⟨k6, rfl, csq⟩, hK _ _ (nz ?_)⟩ | refine .inl ⟨_, _, ⟨k7, rfl, csq⟩, hK _ _ (nz ?_)⟩ | refine .inl ⟨_, _, ⟨k8, rfl, csq⟩, hK _ _ (nz ?_)⟩ | refine .inl ⟨_, _, ⟨k9, rfl, csq⟩, hK _ _ (nz ?_)⟩ | refine .inl ⟨_, _, ⟨d1, rfl, csq⟩, hK _ _ (nz ?_)⟩ | refine .inl ⟨_, _, ⟨d2, rfl, csq⟩, hK _ _ (nz ?_)⟩ | refine .inl ⟨_, _, ⟨d3, rfl, csq⟩, hK _ _ (nz ?_)⟩ | refine ⟨_, ⟨k2, rfl, rfl, csq⟩, hK _ (nz ?_)⟩ | refine ⟨_, ⟨k3, rfl, rfl, csq⟩, hK _ (nz ?_)⟩ | refine ⟨_, ⟨k4, rfl, rfl, csq⟩, hK _ (nz ?_)⟩ | refine ⟨_, ⟨k5, rfl, rfl, csq⟩, hK _ (nz ?_)⟩ | refine ⟨_, ⟨k6, rfl, rfl, csq⟩, hK _ (nz ?_)⟩ | refine ⟨_, ⟨k7, rfl, rfl, csq⟩, hK _ (nz ?_)⟩ | refine ⟨_, ⟨k8, rfl, rfl, csq⟩, hK _ (nz ?_)⟩ | refine ⟨_, ⟨k9, rfl, rfl, csq⟩, hK _ (nz ?_)⟩ | refine ⟨_, ⟨d1, rfl, rfl, csq⟩, hK _ (nz ?_)⟩ | refine ⟨_, ⟨d2, rfl, rfl, csq⟩, hK _ (nz ?_)⟩ | refine ⟨_, ⟨d3, rfl, rfl, csq⟩, hK _ (nz ?_)⟩); clear hK KK) | (refine ⟨by first | exact eq_hop | exact eq_pol, ?_⟩; (first | refine hK _ _ ?_ | refine hK _ (nz ?_)); clear hK KK) | ((repeat refine And.intro (by first | omega | (rw [getD_map_lt (by omega)]; rfl) | (simp; first | done | omega)) ?_); first | (refine hK _ _ ?_; clear hK KK) | (refine hK _ ?_; clear hK KK; try simp only [upd_mk]))) | ((with_reducible first | refine o_nil (hT _ _ ?_) | refine h_nil (hT _ ?_)); clear hT KT) | ((first | refine gd fun AA BB hA hB => ?_ | refine tc fun AA BB hA hB => ?_); first | (refine go ?_; (first | refine hA ?_ | refine hB ?_); clear hA hB AA BB) | (refine go2 ?_ ?_ <;> intro hb <;> (first | refine hA ?_ | refine hB ?_) <;> clear hA hB AA BB <;> (try simp only [hb, decide_true, decide_false]) <;> (try (exfalso; first | (simp at hb; done) | (simp at hb; omega))))) | (with_reducible refine skS ?_; simp only [upd_mk]) | (refine tdr (id := 7) fun KT hT => ?_; simp only [List.append_eq, List.cons_append, List.nil_append]) | with_reducible refine tdr fun KT hT => ?_ | with_reducible refine bY ?_)
           all_goals clear fx)
          (refine fe ?_; try exact trivial)
      | false =>
        rcases dd with ⟨q1, q2⟩ | q1
        · rw [q1] at d3
          rw [q2] at d4
          (have fx := And.intro (@bnB) (And.intro (@f1) (And.intro (@f2) (And.intro (@f3) (@wl))))
           repeat' (first | with_reducible refine go ?_ | with_reducible refine t_region fun KT hT => ?_ | (refine gp fun KK hK => ?_; first | ((with_reducible first | refine .inl ⟨_, _, ⟨k2, rfl, csq⟩, hK _ _ (nz ?_)⟩ | refine .inl ⟨_, _, ⟨k3, rfl, csq⟩, hK _ _ (nz ?_)⟩ | refine .inl ⟨_, _, ⟨k4, rfl, csq⟩, hK _ _ (nz ?_)⟩ | refine .inl ⟨_, _, ⟨k5, rfl, csq⟩, hK _ _ (nz ?_)⟩ | refine .inl ⟨_, _, ⟨k6, rfl, csq⟩, hK _ _ (nz ?_)⟩ | refine .inl ⟨_, _, ⟨k7, rfl, csq⟩, hK _ _ (nz ?_)⟩ | refine .inl ⟨_, _, ⟨k9, rfl, csq⟩, hK _ _ (nz ?_)⟩ | refine .inl ⟨_, _, ⟨d1, rfl, csq⟩, hK _ _ (nz ?_)⟩ | refine .inl ⟨_, _, ⟨d2, rfl, csq⟩, hK _ _ (nz ?_)⟩ | refine .inl ⟨_, _, ⟨d3, rfl, csq⟩, hK _ _ (nz ?_)⟩ | refine .inl ⟨_, _, ⟨d4, rfl, csq⟩, hK _ _ (nz ?_)⟩ | refine ⟨_, ⟨k2, rfl, rfl, csq⟩, hK _ (nz ?_)⟩ | refine ⟨_, ⟨k3, rfl, rfl, csq⟩, hK _ (nz ?_)⟩ | refine ⟨_, ⟨k4, rfl, rfl, csq⟩, hK _ (nz ?_)⟩ | refine ⟨_, ⟨k5, rfl, rfl, csq⟩, hK _ (nz ?_)⟩ | refine ⟨_, ⟨k6, rfl, rfl, csq⟩, hK _ (nz ?_)⟩ | refine ⟨_, ⟨k7, rfl, rfl, csq⟩, hK _ (nz ?_)⟩ | refine ⟨_, ⟨k9, rfl, rfl, csq⟩, hK _ (nz ?_)⟩ | refine ⟨_, ⟨d1, rfl, rfl, csq⟩, hK _ (nz ?_)⟩ | refine ⟨_, ⟨d2, rfl, rfl, csq⟩, hK _ (nz ?_)⟩ | refine ⟨_, ⟨d3, rfl, rfl, csq⟩, hK _ (nz ?_)⟩ | refine ⟨_, ⟨d4, rfl, rfl, csq⟩, hK _ (nz ?_)⟩); clear hK KK) | (refine ⟨by first | exact eq_hop | exact eq_pol, ?_⟩; (first | refine hK _ _ ?_ | refine hK _ (nz ?_)); clear hK KK) | ((repeat refine And.intro (by first | omega | (rw [getD_map_lt (by omega)]; rfl) | (simp; first | done | omega)) ?_); first | (refine hK _ _ ?_; clear hK KK) | (refine hK _ ?_; clear hK KK; try simp only [upd_mk]))) | ((with_reducible first | refine o_nil (hT _ _ ?_) | refine h_nil (hT _ ?_)); clear hT KT) | ((first | refine gd fun AA BB hA hB => ?_ | refine tc fun AA BB hA hB => ?_); first | (refine go ?_; (first | refine hA ?_ | refine hB ?_); clear hA hB AA BB) | (refine go2 ?_ ?_ <;> intro hb <;> (first | refine hA ?_ | refine hB ?_) <;> clear hA hB AA BB <;> (try simp only [hb, decide_true, decide_false]) <;> (try (exfalso; first | (simp at hb; done) | (simp at hb; omega))))) | (with_reducible refine skS ?_; simp only [upd_mk]) | (refine tdr (id := 7) fun KT hT => ?_; simp only [List.append_eq, List.cons_append, List.nil_append]) | with_reducible refine tdr fun KT hT => ?_ | with_reducible refine bY ?_)
           all_goals clear fx)
          (refine fe ?_; try exact trivial)
        · rw [q1] at d3
          (have fx := And.intro (@bnB) (And.intro (@f1) (And.intro (@f2) (And.intro (@f3) (@wl))))
           repeat' (first | with_reducible refine go ?_ | with_reducible refine t_region fun KT hT => ?_ | (refine gp fun KK hK => ?_; first | ((with_reducible first | refine .inl ⟨_, _, ⟨k2, rfl, csq⟩, hK _ _ (nz ?_)⟩ | refine .inl ⟨_, _, ⟨k3, rfl, csq⟩, hK _ _ (nz ?_)⟩ | refine .inl ⟨_, _, ⟨k4, rfl, csq⟩, hK _ _ (nz ?_)⟩ | refine .inl ⟨_, _, ⟨k5, rfl, csq⟩, hK _ _ (nz ?_)⟩ | refine .inl ⟨_, _, ⟨k6, rfl, csq⟩, hK _ _ (nz ?_)⟩ | refine .inl ⟨_, _, ⟨k7, rfl, csq⟩, hK _ _ (nz ?_)⟩ | refine .inl ⟨_, _, ⟨k9, rfl, csq⟩, hK _ _ (nz ?_)⟩ | refine .inl ⟨_, _, ⟨d1, rfl, csq⟩, hK _ _ (nz ?_)⟩ | refine .inl ⟨_, _, ⟨d2, rfl, csq⟩, hK _ _ (nz ?_)⟩ | refine .inl ⟨_, _, ⟨d3, rfl, csq⟩, hK _ _ (nz ?_)⟩ | refine ⟨_, ⟨k2, rfl, rfl, csq⟩, hK _ (nz ?_)⟩ | refine ⟨_, ⟨k3, rfl, rfl, csq⟩, hK _ (nz ?_)⟩ | refine ⟨_, ⟨k4, rfl, rfl, csq⟩, hK _ (nz ?_)⟩ | refine ⟨_, ⟨k5, rfl, rfl, csq⟩, hK _ (nz ?_)⟩ | refine ⟨_, ⟨k6, rfl, rfl, csq⟩, hK _ (nz ?_)⟩ | refine ⟨_, ⟨k7, rfl, rfl, csq⟩, hK _ (nz ?_)⟩ | refine ⟨_, ⟨k9, rfl, rfl, csq⟩, hK _ (nz ?_)⟩ | refine ⟨_, ⟨d1, rfl, rfl, csq⟩, hK _ (nz ?_)⟩ | refine ⟨_, ⟨d2, rfl, rfl, csq⟩, hK _ (nz ?_)⟩ | refine ⟨_, ⟨d3, rfl, rfl, csq⟩, hK _ (nz ?_)⟩); clear hK KK) | (refine ⟨by first | exact eq_hop | exact eq_pol, ?_⟩; (first | refine hK _ _ ?_ | refine hK _ (nz ?_)); clear hK KK) | ((repeat refine And.intro (by first | omega | (rw [getD_map_lt (by omega)]; rfl) | (simp; first | done | omega)) ?_); first | (refine hK _ _ ?_; clear hK KK) | (refine hK _ ?_; clear hK KK; try simp only [upd_mk]))) | ((with_reducible first | refine o_nil (hT _ _ ?_) | refine h_nil (hT _ ?_)); clear hT KT) | ((first | refine gd fun AA BB hA hB => ?_ | refine tc fun AA BB hA hB => ?_); first | (refine go ?_; (first | refine hA ?_ | refine hB ?_); clear hA hB AA BB) | (refine go2 ?_ ?_ <;> intro hb <;> (first | refine hA ?_ | refine hB ?_) <;> clear hA hB AA BB <;> (try simp only [hb, decide_true, decide_false]) <;> (try (exfalso; first | (simp at hb; done) | (simp at hb; omega))))) | (with_reducible refine skS ?_; simp only [upd_mk]) | (refine tdr (id := 7) fun KT hT => ?_; simp only [List.append_eq, List.cons_append, List.nil_append]) | with_reducible refine tdr fun KT hT => ?_ | with_reducible refine bY ?_)
           all_goals clear fx)
          (refine fe ?_; try exact trivial)
  · have cb := big_ok b
    have e0 : decide ((1048576 : Int) < (b.length : Int)) = true := decide_eq_true (by omega)
    rw [e0] at cb
    refine acall_mk Try.func3 rfl Try.ntmps3 Try.results3 (by kernel_rfl) (by simp) ?_
    simp only [args, Nat.zero_add, Nat.reduceAdd]
    repeat' (first | with_reducible refine go ?_ | with_reducible refine t_region fun KT hT => ?_ | (refine gp fun KK hK => ?_; first | ((with_reducible first | refine .inl ⟨_, _, ⟨cb, rfl, csq⟩, hK _ _ (nz ?_)⟩ | refine ⟨_, ⟨cb, rfl, rfl, csq⟩, hK _ (nz ?_)⟩); clear hK KK) | (refine ⟨by first | exact eq_hop | exact eq_pol, ?_⟩; (first | refine hK _ _ ?_ | refine hK _ (nz ?_)); clear hK KK) | ((repeat refine And.intro (by first | omega | (rw [getD_map_lt (by omega)]; rfl) | (simp; first | done | omega)) ?_); first | (refine hK _ _ ?_; clear hK KK) | (refine hK _ ?_; clear hK KK; try simp only [upd_mk]))) | ((with_reducible first | refine o_nil (hT _ _ ?_) | refine h_nil (hT _ ?_)); clear hT KT) | ((first | refine gd fun AA BB hA hB => ?_ | refine tc fun AA BB hA hB => ?_); first | (refine go ?_; (first | refine hA ?_ | refine hB ?_); clear hA hB AA BB) | (refine go2 ?_ ?_ <;> intro hb <;> (first | refine hA ?_ | refine hB ?_) <;> clear hA hB AA BB <;> (try simp only [hb, decide_true, decide_false]) <;> (try (exfalso; first | (simp at hb; done) | (simp at hb; omega))))) | (with_reducible refine skS ?_; simp only [upd_mk]) | with_reducible refine tdr fun KT hT => ?_ | with_reducible refine bY ?_)
    (refine fe ?_; try exact trivial)

end Go.Proofs.Ytmiclkgkfkcnoaa
