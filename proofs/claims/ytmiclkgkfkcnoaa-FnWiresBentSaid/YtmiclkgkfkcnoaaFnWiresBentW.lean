/- The walk of the law FnWiresBent. -/
import Derived.Test.YtmiclkgkfkcnoaaRows
import Derived.WalkKit
import Derived.ProofKit
import Derived.OpenShut
import Derived.ShutString
import Derived.ChangeOld
import Derived.Below
import Derived.Test.YtmiclkgkfkcnoaaLr1
import Derived.Test.YtmiclkgkfkcnoaaLzc1
import Derived.Test.YtmiclkgkfkcnoaaLzd1
import Derived.Test.YtmiclkgkfkcnoaaLzp1
import Derived.Test.YtmiclkgkfkcnoaaLzs2
namespace Go.Proofs.Ytmiclkgkfkcnoaa
open Go.ChangeShapes Go.WideShapes Go.ChangeAt Go.RowKit
open Go.ChangeMaps (open_string shut_string)
set_option linter.unusedVariables false
set_option linter.unusedSimpArgs false
set_option maxRecDepth 100000
set_option linter.defProp false
set_option synthInstance.maxHeartbeats 2000000
namespace GWFnWiresBent
def gx := And.intro (@hopRow.eq_1) (And.intro (@polRow.eq_1) (And.intro (@segRow.eq_1) (And.intro (@intRow.eq_1) (And.intro (@rowLen_ints) (And.intro (@rowLen_nil) (And.intro (@rowLen_cons) (And.intro (@rowLen_append) (And.intro (@lenL_app) (And.intro (@byteRow.eq_1) (And.intro (@rowLen_bytes) (And.intro (@bytesOf_map) (And.intro (@bytesOf_cons) (And.intro (@bytesOf_one) (And.intro (@rowLen_strs) (And.intro (@asRow.eq_1) (And.intro (@lkRow.eq_1) (And.intro (@tpRow.eq_1) (And.intro (@rowLen_hops) (And.intro (@rowLen_ases) (And.intro (@rowLen_links) (And.intro (@bcRow.eq_1) (And.intro (@rowLen_bcs) (@u8Row.eq_1)))))))))))))))))))))))
end GWFnWiresBent
open GWFnWiresBent

set_option maxHeartbeats 8000000 in
theorem fnWiresBent_law {x0 : D} (i0 : IsC (.slice [.int .u8]) x0) : ACall Try.prog 7 [x0] (.bool true) [] := by
  
  obtain ⟨b, rfl, hm⟩ := isBytes i0
  by_cases hl : b.length ≤ 1048576
  · have e0 : decide ((1048576 : Int) < (b.length : Int)) = false := decide_eq_false (by omega)
    have cb := big_ok b
    rw [e0] at cb
    refine acall_mk Try.func7 rfl Try.ntmps7 Try.results7 (by kernel_rfl) (by simp) ?_
    simp only [args, Nat.zero_add, Nat.reduceAdd]
    repeat' (first | with_reducible refine go ?_ | with_reducible refine t_region fun KT hT => ?_ | (refine gp fun KK hK => ?_; first | (refine hK _ _ ?_; clear hK KK) | (refine hK _ ?_; clear hK KK; try simp only [upd_mk]) | ((with_reducible first | refine .inl ⟨_, _, ⟨cb, rfl, csq⟩, hK _ _ (nz ?_)⟩ | refine ⟨_, ⟨cb, rfl, rfl, csq⟩, hK _ (nz ?_)⟩); clear hK KK) | (refine ⟨by first | exact eq_hop | exact eq_pol, hK _ _ ?_⟩; clear hK KK) | (refine ⟨by first | exact eq_hop | exact eq_pol, hK _ (nz ?_)⟩; clear hK KK) | ((repeat refine And.intro (by first | omega | (rw [getD_map_lt (by omega)]; rfl) | (simp; first | done | omega)) ?_); first | (refine hK _ _ ?_; clear hK KK) | (refine hK _ ?_; clear hK KK; try simp only [upd_mk]))) | ((with_reducible first | refine o_nil (hT _ _ ?_) | refine h_nil (hT _ ?_)); clear hT KT) | ((first | refine gd fun AA BB hA hB => ?_ | refine tc fun AA BB hA hB => ?_); first | (refine go ?_; (first | refine hA ?_ | refine hB ?_); clear hA hB AA BB) | (refine go2 ?_ ?_ <;> intro hb <;> (first | refine hA ?_ | refine hB ?_) <;> clear hA hB AA BB <;> (try simp only [hb, decide_true, decide_false]) <;> (try (exfalso; first | (simp at hb; done) | (simp at hb; omega))))) | (with_reducible refine skS ?_; simp only [upd_mk]) | with_reducible refine tdr fun KT hT => ?_ | with_reducible refine bY ?_)
    (refine gp fun KK hK => ?_; refine .inr (.inr (eQ [] (drawRH_e b hl) (fun x1 hx1 => hK _ _ ?_))); refine nze ?_; clear hK KK)
    obtain ⟨m, i⟩ := x1
    simp only at hx1
    have c1 := rdHop_i m i (by omega)
    have c2 := rdHop_s m i (by omega)
    obtain ⟨g, e, ok, eD, gD, hD⟩ := rdHopD_of (rdHop m i)
    rw [eD] at c1 c2
    simp only [hopRow] at c1 c2
    repeat' (first | with_reducible refine go ?_ | with_reducible refine t_region fun KT hT => ?_ | (refine gp fun KK hK => ?_; first | (refine hK _ _ ?_; clear hK KK) | (refine hK _ ?_; clear hK KK; try simp only [upd_mk]) | ((with_reducible first | refine .inl ⟨_, _, ⟨c1, rfl, csq⟩, hK _ _ (nz ?_)⟩ | refine .inl ⟨_, _, ⟨c2, rfl, csq⟩, hK _ _ (nz ?_)⟩ | refine ⟨_, ⟨c1, rfl, rfl, csq⟩, hK _ (nz ?_)⟩ | refine ⟨_, ⟨c2, rfl, rfl, csq⟩, hK _ (nz ?_)⟩); clear hK KK) | (refine ⟨by first | exact eq_hop | exact eq_pol, hK _ _ ?_⟩; clear hK KK) | (refine ⟨by first | exact eq_hop | exact eq_pol, hK _ (nz ?_)⟩; clear hK KK) | ((repeat refine And.intro (by first | omega | (rw [getD_map_lt (by omega)]; rfl) | (simp; first | done | omega)) ?_); first | (refine hK _ _ ?_; clear hK KK) | (refine hK _ ?_; clear hK KK; try simp only [upd_mk]))) | ((with_reducible first | refine o_nil (hT _ _ ?_) | refine h_nil (hT _ ?_)); clear hT KT) | ((first | refine gd fun AA BB hA hB => ?_ | refine tc fun AA BB hA hB => ?_); first | (refine go ?_; (first | refine hA ?_ | refine hB ?_); clear hA hB AA BB) | (refine go2 ?_ ?_ <;> intro hb <;> (first | refine hA ?_ | refine hB ?_) <;> clear hA hB AA BB <;> (try simp only [hb, decide_true, decide_false]) <;> (try (exfalso; first | (simp at hb; done) | (simp at hb; omega))))) | (with_reducible refine skS ?_; simp only [upd_mk]) | with_reducible refine tdr fun KT hT => ?_ | with_reducible refine bY ?_)
    (refine gp fun KK hK => ?_; refine .inr (.inr (eQ [] (drawRS_e b hl) (fun x2 hx2 => hK _ _ ?_))); refine nze ?_; clear hK KK)
    obtain ⟨n, j⟩ := x2
    simp only at hx2
    have c3 := rdSegC_i n j (by omega)
    have c4 := rdSegC_s n j (by omega)
    obtain ⟨s, z, is, eR, gR, hR⟩ := rdSegD_of (rdSeg n j)
    rw [eR] at c3 c4
    have sh : s.hops.length ≤ 1048576 := by
      cases is with
      | true => have := (encodable_R (rdSeg_dec (gR rfl)).1).2.2.1; omega
      | false => cases q : rdSeg n j with
        | none => rw [q] at eR; simp only [rdSegD, segRow, List.cons.injEq, D.agg.injEq, D.sl.injEq] at eR; have := eR.1.2.2.1; have := congrArg List.length this; simp at this; simp [← this]
        | some p => have := (hR p q).2.2; cases this
    have d1 := sameSeg_l s s sh
    simp only [decide_true] at d1
    simp only [segRow] at c3 c4 d1
    clear c1 c2
    have hopPart : ok = true → validHop g = true ∧ ∃ a : Nat, i = a ∧ a ≤ m.length ∧ m.take a ++ encHop g = m.take e ∧ e ≤ m.length := fun q => by
      obtain ⟨p1, a, p2, p3, p4, _, p6⟩ := rdHop_dec (gD q)
      exact ⟨p1, a, p2, p3, take_enc p4, p6⟩
    have segPart : is = true → encodable s = true ∧ ∃ a : Nat, j = a ∧ a ≤ n.length ∧ n.take a ++ encSeg s = n.take z ∧ z ≤ n.length := fun q => by
      obtain ⟨p1, a, p2, p3, p4, _, p6⟩ := rdSeg_dec (gR q)
      exact ⟨p1, a, p2, p3, take_enc p4, p6⟩
    have v1 := validHop_i g
    have v2 := enc_i s sh
    cases ok with
    | true =>
      obtain ⟨p1, a, p2, p3, p4, p5⟩ := hopPart rfl
      subst p2
      have w1 := (appHop_i (m.take a) g (by simp only [List.length_take]; omega)).ro
      simp only [view, viewL, tabOf, List.getElem?_cons_zero, Option.map_some, p4] at w1
      have w2 := same_l (m.take e) (m.take e) (by simp only [List.length_take]; omega)
      simp only [decide_true] at w2
      rw [p1] at v1
      simp only [hopRow] at v1 w1
      cases is with
      | true =>
        obtain ⟨r1, c, r2, r3, r4, r5⟩ := segPart rfl
        subst r2
        have w3 := appSeg_i (n.take c) s (by simp only [List.length_take]; omega) sh
        rw [r4] at w3
        have w4 := same_l (n.take z) (n.take z) (by simp only [List.length_take]; omega)
        simp only [decide_true] at w4
        rw [r1] at v2
        simp only [segRow] at v2 w3
        (have fx := And.intro (@p3) (And.intro (@p5) (And.intro (@r3) (And.intro (@r5) (And.intro (@bytes_take) (And.intro (@Nat.zero_le) (And.intro (@bneI_self) (And.intro (@bnB) (@decI_self))))))))
         repeat' (first | with_reducible refine go ?_ | with_reducible refine t_region fun KT hT => ?_ | (refine gp fun KK hK => ?_; first | (refine hK _ _ ?_; clear hK KK) | (refine hK _ ?_; clear hK KK; try simp only [upd_mk]) | ((with_reducible first | refine .inl ⟨_, _, ⟨c3, rfl, csq⟩, hK _ _ (nz ?_)⟩ | refine .inl ⟨_, _, ⟨c4, rfl, csq⟩, hK _ _ (nz ?_)⟩ | refine .inl ⟨_, _, ⟨d1, rfl, csq⟩, hK _ _ (nz ?_)⟩ | refine .inl ⟨_, _, ⟨v1, rfl, csq⟩, hK _ _ (nz ?_)⟩ | refine .inl ⟨_, _, ⟨v2, rfl, csq⟩, hK _ _ (nz ?_)⟩ | refine .inl ⟨_, _, ⟨w1, rfl, csq⟩, hK _ _ (nz ?_)⟩ | refine .inl ⟨_, _, ⟨w2, rfl, csq⟩, hK _ _ (nz ?_)⟩ | refine .inl ⟨_, _, ⟨w3, rfl, csq⟩, hK _ _ (nz ?_)⟩ | refine .inl ⟨_, _, ⟨w4, rfl, csq⟩, hK _ _ (nz ?_)⟩ | refine ⟨_, ⟨c3, rfl, rfl, csq⟩, hK _ (nz ?_)⟩ | refine ⟨_, ⟨c4, rfl, rfl, csq⟩, hK _ (nz ?_)⟩ | refine ⟨_, ⟨d1, rfl, rfl, csq⟩, hK _ (nz ?_)⟩ | refine ⟨_, ⟨v1, rfl, rfl, csq⟩, hK _ (nz ?_)⟩ | refine ⟨_, ⟨v2, rfl, rfl, csq⟩, hK _ (nz ?_)⟩ | refine ⟨_, ⟨w1, rfl, rfl, csq⟩, hK _ (nz ?_)⟩ | refine ⟨_, ⟨w2, rfl, rfl, csq⟩, hK _ (nz ?_)⟩ | refine ⟨_, ⟨w3, rfl, rfl, csq⟩, hK _ (nz ?_)⟩ | refine ⟨_, ⟨w4, rfl, rfl, csq⟩, hK _ (nz ?_)⟩); clear hK KK) | (refine ⟨by first | exact eq_hop | exact eq_pol, hK _ _ ?_⟩; clear hK KK) | (refine ⟨by first | exact eq_hop | exact eq_pol, hK _ (nz ?_)⟩; clear hK KK) | ((repeat refine And.intro (by first | omega | (rw [getD_map_lt (by omega)]; rfl) | (simp; first | done | omega)) ?_); first | (refine hK _ _ ?_; clear hK KK) | (refine hK _ ?_; clear hK KK; try simp only [upd_mk]))) | ((with_reducible first | refine o_nil (hT _ _ ?_) | refine h_nil (hT _ ?_)); clear hT KT) | ((first | refine gd fun AA BB hA hB => ?_ | refine tc fun AA BB hA hB => ?_); first | (refine go ?_; (first | refine hA ?_ | refine hB ?_); clear hA hB AA BB) | (refine go2 ?_ ?_ <;> intro hb <;> (first | refine hA ?_ | refine hB ?_) <;> clear hA hB AA BB <;> (try simp only [hb, decide_true, decide_false]) <;> (try (exfalso; first | (simp at hb; done) | (simp at hb; omega))))) | (with_reducible refine skS ?_; simp only [upd_mk]) | with_reducible refine tdr fun KT hT => ?_ | with_reducible refine bY ?_)
         all_goals clear fx)
        (refine fe ?_; try exact trivial)
      | false =>
        (have fx := And.intro (@p3) (And.intro (@p5) (And.intro (@bytes_take) (And.intro (@Nat.zero_le) (And.intro (@bneI_self) (And.intro (@bnB) (@decI_self))))))
         repeat' (first | with_reducible refine go ?_ | with_reducible refine t_region fun KT hT => ?_ | (refine gp fun KK hK => ?_; first | (refine hK _ _ ?_; clear hK KK) | (refine hK _ ?_; clear hK KK; try simp only [upd_mk]) | ((with_reducible first | refine .inl ⟨_, _, ⟨c3, rfl, csq⟩, hK _ _ (nz ?_)⟩ | refine .inl ⟨_, _, ⟨c4, rfl, csq⟩, hK _ _ (nz ?_)⟩ | refine .inl ⟨_, _, ⟨d1, rfl, csq⟩, hK _ _ (nz ?_)⟩ | refine .inl ⟨_, _, ⟨v1, rfl, csq⟩, hK _ _ (nz ?_)⟩ | refine .inl ⟨_, _, ⟨w1, rfl, csq⟩, hK _ _ (nz ?_)⟩ | refine .inl ⟨_, _, ⟨w2, rfl, csq⟩, hK _ _ (nz ?_)⟩ | refine ⟨_, ⟨c3, rfl, rfl, csq⟩, hK _ (nz ?_)⟩ | refine ⟨_, ⟨c4, rfl, rfl, csq⟩, hK _ (nz ?_)⟩ | refine ⟨_, ⟨d1, rfl, rfl, csq⟩, hK _ (nz ?_)⟩ | refine ⟨_, ⟨v1, rfl, rfl, csq⟩, hK _ (nz ?_)⟩ | refine ⟨_, ⟨w1, rfl, rfl, csq⟩, hK _ (nz ?_)⟩ | refine ⟨_, ⟨w2, rfl, rfl, csq⟩, hK _ (nz ?_)⟩); clear hK KK) | (refine ⟨by first | exact eq_hop | exact eq_pol, hK _ _ ?_⟩; clear hK KK) | (refine ⟨by first | exact eq_hop | exact eq_pol, hK _ (nz ?_)⟩; clear hK KK) | ((repeat refine And.intro (by first | omega | (rw [getD_map_lt (by omega)]; rfl) | (simp; first | done | omega)) ?_); first | (refine hK _ _ ?_; clear hK KK) | (refine hK _ ?_; clear hK KK; try simp only [upd_mk]))) | ((with_reducible first | refine o_nil (hT _ _ ?_) | refine h_nil (hT _ ?_)); clear hT KT) | ((first | refine gd fun AA BB hA hB => ?_ | refine tc fun AA BB hA hB => ?_); first | (refine go ?_; (first | refine hA ?_ | refine hB ?_); clear hA hB AA BB) | (refine go2 ?_ ?_ <;> intro hb <;> (first | refine hA ?_ | refine hB ?_) <;> clear hA hB AA BB <;> (try simp only [hb, decide_true, decide_false]) <;> (try (exfalso; first | (simp at hb; done) | (simp at hb; omega))))) | (with_reducible refine skS ?_; simp only [upd_mk]) | with_reducible refine tdr fun KT hT => ?_ | with_reducible refine bY ?_)
         all_goals clear fx)
        (refine fe ?_; try exact trivial)
    | false =>
      cases is with
      | true =>
        obtain ⟨r1, c, r2, r3, r4, r5⟩ := segPart rfl
        subst r2
        have w3 := appSeg_i (n.take c) s (by simp only [List.length_take]; omega) sh
        rw [r4] at w3
        have w4 := same_l (n.take z) (n.take z) (by simp only [List.length_take]; omega)
        simp only [decide_true] at w4
        rw [r1] at v2
        simp only [segRow] at v2 w3
        (have fx := And.intro (@r3) (And.intro (@r5) (And.intro (@bytes_take) (And.intro (@Nat.zero_le) (And.intro (@bneI_self) (And.intro (@bnB) (@decI_self))))))
         repeat' (first | with_reducible refine go ?_ | with_reducible refine t_region fun KT hT => ?_ | (refine gp fun KK hK => ?_; first | (refine hK _ _ ?_; clear hK KK) | (refine hK _ ?_; clear hK KK; try simp only [upd_mk]) | ((with_reducible first | refine .inl ⟨_, _, ⟨c3, rfl, csq⟩, hK _ _ (nz ?_)⟩ | refine .inl ⟨_, _, ⟨c4, rfl, csq⟩, hK _ _ (nz ?_)⟩ | refine .inl ⟨_, _, ⟨d1, rfl, csq⟩, hK _ _ (nz ?_)⟩ | refine .inl ⟨_, _, ⟨v2, rfl, csq⟩, hK _ _ (nz ?_)⟩ | refine .inl ⟨_, _, ⟨w3, rfl, csq⟩, hK _ _ (nz ?_)⟩ | refine .inl ⟨_, _, ⟨w4, rfl, csq⟩, hK _ _ (nz ?_)⟩ | refine ⟨_, ⟨c3, rfl, rfl, csq⟩, hK _ (nz ?_)⟩ | refine ⟨_, ⟨c4, rfl, rfl, csq⟩, hK _ (nz ?_)⟩ | refine ⟨_, ⟨d1, rfl, rfl, csq⟩, hK _ (nz ?_)⟩ | refine ⟨_, ⟨v2, rfl, rfl, csq⟩, hK _ (nz ?_)⟩ | refine ⟨_, ⟨w3, rfl, rfl, csq⟩, hK _ (nz ?_)⟩ | refine ⟨_, ⟨w4, rfl, rfl, csq⟩, hK _ (nz ?_)⟩); clear hK KK) | (refine ⟨by first | exact eq_hop | exact eq_pol, hK _ _ ?_⟩; clear hK KK) | (refine ⟨by first | exact eq_hop | exact eq_pol, hK _ (nz ?_)⟩; clear hK KK) | ((repeat refine And.intro (by first | omega | (rw [getD_map_lt (by omega)]; rfl) | (simp; first | done | omega)) ?_); first | (refine hK _ _ ?_; clear hK KK) | (refine hK _ ?_; clear hK KK; try simp only [upd_mk]))) | ((with_reducible first | refine o_nil (hT _ _ ?_) | refine h_nil (hT _ ?_)); clear hT KT) | ((first | refine gd fun AA BB hA hB => ?_ | refine tc fun AA BB hA hB => ?_); first | (refine go ?_; (first | refine hA ?_ | refine hB ?_); clear hA hB AA BB) | (refine go2 ?_ ?_ <;> intro hb <;> (first | refine hA ?_ | refine hB ?_) <;> clear hA hB AA BB <;> (try simp only [hb, decide_true, decide_false]) <;> (try (exfalso; first | (simp at hb; done) | (simp at hb; omega))))) | (with_reducible refine skS ?_; simp only [upd_mk]) | with_reducible refine tdr fun KT hT => ?_ | with_reducible refine bY ?_)
         all_goals clear fx)
        (refine fe ?_; try exact trivial)
      | false =>
        (have fx := And.intro (@bneI_self) (And.intro (@bnB) (@decI_self))
         repeat' (first | with_reducible refine go ?_ | with_reducible refine t_region fun KT hT => ?_ | (refine gp fun KK hK => ?_; first | (refine hK _ _ ?_; clear hK KK) | (refine hK _ ?_; clear hK KK; try simp only [upd_mk]) | ((with_reducible first | refine .inl ⟨_, _, ⟨c3, rfl, csq⟩, hK _ _ (nz ?_)⟩ | refine .inl ⟨_, _, ⟨c4, rfl, csq⟩, hK _ _ (nz ?_)⟩ | refine .inl ⟨_, _, ⟨d1, rfl, csq⟩, hK _ _ (nz ?_)⟩ | refine ⟨_, ⟨c3, rfl, rfl, csq⟩, hK _ (nz ?_)⟩ | refine ⟨_, ⟨c4, rfl, rfl, csq⟩, hK _ (nz ?_)⟩ | refine ⟨_, ⟨d1, rfl, rfl, csq⟩, hK _ (nz ?_)⟩); clear hK KK) | (refine ⟨by first | exact eq_hop | exact eq_pol, hK _ _ ?_⟩; clear hK KK) | (refine ⟨by first | exact eq_hop | exact eq_pol, hK _ (nz ?_)⟩; clear hK KK) | ((repeat refine And.intro (by first | omega | (rw [getD_map_lt (by omega)]; rfl) | (simp; first | done | omega)) ?_); first | (refine hK _ _ ?_; clear hK KK) | (refine hK _ ?_; clear hK KK; try simp only [upd_mk]))) | ((with_reducible first | refine o_nil (hT _ _ ?_) | refine h_nil (hT _ ?_)); clear hT KT) | ((first | refine gd fun AA BB hA hB => ?_ | refine tc fun AA BB hA hB => ?_); first | (refine go ?_; (first | refine hA ?_ | refine hB ?_); clear hA hB AA BB) | (refine go2 ?_ ?_ <;> intro hb <;> (first | refine hA ?_ | refine hB ?_) <;> clear hA hB AA BB <;> (try simp only [hb, decide_true, decide_false]) <;> (try (exfalso; first | (simp at hb; done) | (simp at hb; omega))))) | (with_reducible refine skS ?_; simp only [upd_mk]) | with_reducible refine tdr fun KT hT => ?_ | with_reducible refine bY ?_)
         all_goals clear fx)
        (refine fe ?_; try exact trivial)
  · have cb := big_ok b
    have e0 : decide ((1048576 : Int) < (b.length : Int)) = true := decide_eq_true (by omega)
    rw [e0] at cb
    refine acall_mk Try.func7 rfl Try.ntmps7 Try.results7 (by kernel_rfl) (by simp) ?_
    simp only [args, Nat.zero_add, Nat.reduceAdd]
    repeat' (first | with_reducible refine go ?_ | with_reducible refine t_region fun KT hT => ?_ | (refine gp fun KK hK => ?_; first | (refine hK _ _ ?_; clear hK KK) | (refine hK _ ?_; clear hK KK; try simp only [upd_mk]) | ((with_reducible first | refine .inl ⟨_, _, ⟨cb, rfl, csq⟩, hK _ _ (nz ?_)⟩ | refine ⟨_, ⟨cb, rfl, rfl, csq⟩, hK _ (nz ?_)⟩); clear hK KK) | (refine ⟨by first | exact eq_hop | exact eq_pol, hK _ _ ?_⟩; clear hK KK) | (refine ⟨by first | exact eq_hop | exact eq_pol, hK _ (nz ?_)⟩; clear hK KK) | ((repeat refine And.intro (by first | omega | (rw [getD_map_lt (by omega)]; rfl) | (simp; first | done | omega)) ?_); first | (refine hK _ _ ?_; clear hK KK) | (refine hK _ ?_; clear hK KK; try simp only [upd_mk]))) | ((with_reducible first | refine o_nil (hT _ _ ?_) | refine h_nil (hT _ ?_)); clear hT KT) | ((first | refine gd fun AA BB hA hB => ?_ | refine tc fun AA BB hA hB => ?_); first | (refine go ?_; (first | refine hA ?_ | refine hB ?_); clear hA hB AA BB) | (refine go2 ?_ ?_ <;> intro hb <;> (first | refine hA ?_ | refine hB ?_) <;> clear hA hB AA BB <;> (try simp only [hb, decide_true, decide_false]) <;> (try (exfalso; first | (simp at hb; done) | (simp at hb; omega))))) | (with_reducible refine skS ?_; simp only [upd_mk]) | with_reducible refine tdr fun KT hT => ?_ | with_reducible refine bY ?_)
    (refine fe ?_; try exact trivial)

end Go.Proofs.Ytmiclkgkfkcnoaa
