/- The walk of the law FnWires. -/
import Derived.Test.YtmiclkgkfkcnoaaRows
import Derived.WalkKit
import Derived.ProofKit
import Derived.OpenShut
import Derived.ShutString
import Derived.ChangeOld
import Derived.Below
import Derived.Test.YtmiclkgkfkcnoaaLr1
import Derived.Test.YtmiclkgkfkcnoaaLzc1
import Derived.Test.YtmiclkgkfkcnoaaLzd1
import Derived.Test.YtmiclkgkfkcnoaaLzp1
import Derived.Test.YtmiclkgkfkcnoaaLzs2
namespace Go.Proofs.Ytmiclkgkfkcnoaa
open Go.ChangeShapes Go.WideShapes Go.ChangeAt Go.RowKit
open Go.ChangeMaps (open_string shut_string)
set_option linter.unusedVariables false
set_option linter.unusedSimpArgs false
set_option maxRecDepth 100000
set_option linter.defProp false
set_option synthInstance.maxHeartbeats 2000000
namespace GWFnWires
def gx := And.intro (@hopRow.eq_1) (And.intro (@polRow.eq_1) (And.intro (@segRow.eq_1) (And.intro (@intRow.eq_1) (And.intro (@rowLen_ints) (And.intro (@rowLen_nil) (And.intro (@rowLen_cons) (And.intro (@rowLen_append) (And.intro (@lenL_app) (And.intro (@byteRow.eq_1) (And.intro (@rowLen_bytes) (And.intro (@bytesOf_map) (And.intro (@bytesOf_cons) (And.intro (@bytesOf_one) (And.intro (@rowLen_strs) (And.intro (@asRow.eq_1) (And.intro (@lkRow.eq_1) (And.intro (@tpRow.eq_1) (And.intro (@rowLen_hops) (And.intro (@rowLen_ases) (And.intro (@rowLen_links) (And.intro (@bcRow.eq_1) (And.intro (@rowLen_bcs) (@u8Row.eq_1)))))))))))))))))))))))
end GWFnWires
open GWFnWires

set_option maxHeartbeats 8000000 in
theorem fnWires_law {x0 : D} (i0 : IsC (.slice [.int .u8]) x0) : ACall Try.prog 6 [x0] (.bool true) [] := by
  
  obtain ⟨b, rfl, hm⟩ := isBytes i0
  by_cases hl : b.length ≤ 1048576
  · have e0 : decide ((1048576 : Int) < (b.length : Int)) = false := decide_eq_false (by omega)
    have cb := big_ok b
    rw [e0] at cb
    refine acall_mk Try.func6 rfl Try.ntmps6 Try.results6 (by kernel_rfl) (by simp) ?_
    simp only [args, Nat.zero_add, Nat.reduceAdd]
    repeat' (first | with_reducible refine go ?_ | with_reducible refine t_region fun KT hT => ?_ | (refine gp fun KK hK => ?_; first | (refine hK _ _ ?_; clear hK KK) | (refine hK _ ?_; clear hK KK; try simp only [upd_mk]) | ((with_reducible first | refine .inl ⟨_, _, ⟨cb, rfl, csq⟩, hK _ _ (nz ?_)⟩ | refine ⟨_, ⟨cb, rfl, rfl, csq⟩, hK _ (nz ?_)⟩); clear hK KK) | (refine ⟨by first | exact eq_hop | exact eq_pol, hK _ _ ?_⟩; clear hK KK) | (refine ⟨by first | exact eq_hop | exact eq_pol, hK _ (nz ?_)⟩; clear hK KK) | ((repeat refine And.intro (by first | omega | (rw [getD_map_lt (by omega)]; rfl) | (simp; first | done | omega)) ?_); first | (refine hK _ _ ?_; clear hK KK) | (refine hK _ ?_; clear hK KK; try simp only [upd_mk]))) | ((with_reducible first | refine o_nil (hT _ _ ?_) | refine h_nil (hT _ ?_)); clear hT KT) | ((first | refine gd fun AA BB hA hB => ?_ | refine tc fun AA BB hA hB => ?_); first | (refine go ?_; (first | refine hA ?_ | refine hB ?_); clear hA hB AA BB) | (refine go2 ?_ ?_ <;> intro hb <;> (first | refine hA ?_ | refine hB ?_) <;> clear hA hB AA BB <;> (try simp only [hb, decide_true, decide_false]) <;> (try (exfalso; first | (simp at hb; done) | (simp at hb; omega))))) | (with_reducible refine skS ?_; simp only [upd_mk]) | with_reducible refine tdr fun KT hT => ?_ | with_reducible refine bY ?_)
    (refine gp fun KK hK => ?_; refine .inr (.inr (eQ [] (drawAH_e b hl) (fun x1 hx1 => hK _ _ ?_))); refine nze ?_; clear hK KK)
    obtain ⟨m, h⟩ := x1
    simp only at hx1
    repeat' (first | with_reducible refine go ?_ | with_reducible refine t_region fun KT hT => ?_ | (refine gp fun KK hK => ?_; first | (refine hK _ _ ?_; clear hK KK) | (refine hK _ ?_; clear hK KK; try simp only [upd_mk]) | (refine ⟨by first | exact eq_hop | exact eq_pol, hK _ _ ?_⟩; clear hK KK) | (refine ⟨by first | exact eq_hop | exact eq_pol, hK _ (nz ?_)⟩; clear hK KK) | ((repeat refine And.intro (by first | omega | (rw [getD_map_lt (by omega)]; rfl) | (simp; first | done | omega)) ?_); first | (refine hK _ _ ?_; clear hK KK) | (refine hK _ ?_; clear hK KK; try simp only [upd_mk]))) | ((with_reducible first | refine o_nil (hT _ _ ?_) | refine h_nil (hT _ ?_)); clear hT KT) | ((first | refine gd fun AA BB hA hB => ?_ | refine tc fun AA BB hA hB => ?_); first | (refine go ?_; (first | refine hA ?_ | refine hB ?_); clear hA hB AA BB) | (refine go2 ?_ ?_ <;> intro hb <;> (first | refine hA ?_ | refine hB ?_) <;> clear hA hB AA BB <;> (try simp only [hb, decide_true, decide_false]) <;> (try (exfalso; first | (simp at hb; done) | (simp at hb; omega))))) | (with_reducible refine skS ?_; simp only [upd_mk]) | with_reducible refine tdr fun KT hT => ?_ | with_reducible refine bY ?_)
    (refine gp fun KK hK => ?_; refine .inr (.inr (eQ [] (drawAS_e b hl) (fun x2 hx2 => hK _ _ ?_))); refine nze ?_; clear hK KK)
    obtain ⟨n, s⟩ := x2
    obtain ⟨hn, hs⟩ := hx2
    simp only at hn hs
    have sh : s.hops.length ≤ 1048576 := by omega
    have lh := encHop_len h
    have ls := encSeg_258 s
    have k1 := (appHop_i m h (by omega)).ro
    have k2 := (appHop_s m h (by omega)).ro
    have k3 := appSeg_i n s (by omega) sh
    have k4 := (appSeg_s n s (by omega) sh).ro
    simp only [view, viewL, tabOf, List.getElem?_cons_zero, Option.map_some] at k1 k2 k4
    have lx : (m ++ encHop h).length ≤ 64 := by simp only [List.length_append]; omega
    have ly : (n ++ encSeg s).length ≤ 512 := by simp only [List.length_append]; omega
    have k5 := same_l (m ++ encHop h) (m ++ encHop h) (by omega)
    have k6 := same_l (n ++ encSeg s) (n ++ encSeg s) (by omega)
    simp only [decide_true] at k5 k6
    have k7 := enc_i s sh
    have k8 := enc_s s sh
    have k9 := segId_i s sh
    have k10 := segId_s s sh
    have k11 := segSize_i s sh
    have k12 := segSize_s s sh
    have k13 := validHop_i h
    have k14 := same_l (m ++ encHop h) m (by omega)
    have k15 := same_l (n ++ encSeg s) n (by omega)
    have k16 := fun q : validHop h = true => rdHop_enc (b := m ++ encHop h) (R := []) (a := m.length) q (by simp) (by simp)
    have k17 := fun q : encodable s = true => rdSeg_enc (b := n ++ encSeg s) (R := []) (a := n.length) q (by simp) (by simp)
    have eH : validHop h = false → encHop h = [] := fun q => by rw [encHop, if_neg (by simp [q])]
    have eS : encodable s = false → encSeg s = [] := fun q => by rw [encSeg, if_neg (by simp [q])]
    have cH := rdHop_i (m ++ encHop h) m.length (by omega)
    have cS := rdSegC_i (n ++ encSeg s) n.length (by omega)
    obtain ⟨g, e, ok, eD, gD, hD⟩ := rdHopD_of (rdHop (m ++ encHop h) m.length)
    obtain ⟨r, z, is, eR, gR, hR⟩ := rdSegD_of (rdSeg (n ++ encSeg s) n.length)
    rw [eD] at cH
    rw [eR] at cS
    have fx1 : m.length + (encHop h).length = (m ++ encHop h).length := by simp
    have fy1 : n.length + (encSeg s).length = (n ++ encSeg s).length := by simp
    have fl : ((encSeg s).length : Int) = ((n ++ encSeg s).length : Int) - (n.length : Int) := by omega
    rw [fx1] at k16
    rw [fy1] at k17
    have ex0 : validHop h = false → m ++ encHop h = m := fun q => by rw [eH q, List.append_nil]
    have ey0 : encodable s = false → n ++ encSeg s = n := fun q => by rw [eS q, List.append_nil]
    have el0 : encodable s = false → ((encSeg s).length : Int) = 0 := fun q => by rw [eS q]; rfl
    generalize hx : m ++ encHop h = x at *
    generalize hy : n ++ encSeg s = y at *
    generalize ((encSeg s).length : Int) = y2 at *
    generalize digest (segIds s) = v1 at *
    have wl : IntKind.i64.wrap ((y.length : Int) - (n.length : Int)) = (y.length : Int) - (n.length : Int) := wr64 (by omega) (by omega)
    generalize hv2 : validHop h = v2 at *
    generalize hv3 : encodable s = v3 at *
    simp only [hopRow] at cH
    simp only [segRow] at cS
    (have fx := And.intro (@bneI_self) (@bnB)
     repeat' (first | with_reducible refine go ?_ | with_reducible refine t_region fun KT hT => ?_ | (refine gp fun KK hK => ?_; first | (refine hK _ _ ?_; clear hK KK) | (refine hK _ ?_; clear hK KK; try simp only [upd_mk]) | ((with_reducible first | refine .inl ⟨_, _, ⟨k1, rfl, csq⟩, hK _ _ (nz ?_)⟩ | refine .inl ⟨_, _, ⟨k2, rfl, csq⟩, hK _ _ (nz ?_)⟩ | refine .inl ⟨_, _, ⟨k3, rfl, csq⟩, hK _ _ (nz ?_)⟩ | refine .inl ⟨_, _, ⟨k4, rfl, csq⟩, hK _ _ (nz ?_)⟩ | refine .inl ⟨_, _, ⟨k5, rfl, csq⟩, hK _ _ (nz ?_)⟩ | refine .inl ⟨_, _, ⟨k6, rfl, csq⟩, hK _ _ (nz ?_)⟩ | refine .inl ⟨_, _, ⟨k7, rfl, csq⟩, hK _ _ (nz ?_)⟩ | refine .inl ⟨_, _, ⟨k8, rfl, csq⟩, hK _ _ (nz ?_)⟩ | refine .inl ⟨_, _, ⟨k9, rfl, csq⟩, hK _ _ (nz ?_)⟩ | refine .inl ⟨_, _, ⟨k10, rfl, csq⟩, hK _ _ (nz ?_)⟩ | refine .inl ⟨_, _, ⟨k11, rfl, csq⟩, hK _ _ (nz ?_)⟩ | refine .inl ⟨_, _, ⟨k12, rfl, csq⟩, hK _ _ (nz ?_)⟩ | refine .inl ⟨_, _, ⟨cH, rfl, csq⟩, hK _ _ (nz ?_)⟩ | refine .inl ⟨_, _, ⟨cS, rfl, csq⟩, hK _ _ (nz ?_)⟩ | refine ⟨_, ⟨k1, rfl, rfl, csq⟩, hK _ (nz ?_)⟩ | refine ⟨_, ⟨k2, rfl, rfl, csq⟩, hK _ (nz ?_)⟩ | refine ⟨_, ⟨k3, rfl, rfl, csq⟩, hK _ (nz ?_)⟩ | refine ⟨_, ⟨k4, rfl, rfl, csq⟩, hK _ (nz ?_)⟩ | refine ⟨_, ⟨k5, rfl, rfl, csq⟩, hK _ (nz ?_)⟩ | refine ⟨_, ⟨k6, rfl, rfl, csq⟩, hK _ (nz ?_)⟩ | refine ⟨_, ⟨k7, rfl, rfl, csq⟩, hK _ (nz ?_)⟩ | refine ⟨_, ⟨k8, rfl, rfl, csq⟩, hK _ (nz ?_)⟩ | refine ⟨_, ⟨k9, rfl, rfl, csq⟩, hK _ (nz ?_)⟩ | refine ⟨_, ⟨k10, rfl, rfl, csq⟩, hK _ (nz ?_)⟩ | refine ⟨_, ⟨k11, rfl, rfl, csq⟩, hK _ (nz ?_)⟩ | refine ⟨_, ⟨k12, rfl, rfl, csq⟩, hK _ (nz ?_)⟩ | refine ⟨_, ⟨cH, rfl, rfl, csq⟩, hK _ (nz ?_)⟩ | refine ⟨_, ⟨cS, rfl, rfl, csq⟩, hK _ (nz ?_)⟩); clear hK KK) | (refine ⟨by first | exact eq_hop | exact eq_pol, hK _ _ ?_⟩; clear hK KK) | (refine ⟨by first | exact eq_hop | exact eq_pol, hK _ (nz ?_)⟩; clear hK KK) | ((repeat refine And.intro (by first | omega | (rw [getD_map_lt (by omega)]; rfl) | (simp; first | done | omega)) ?_); first | (refine hK _ _ ?_; clear hK KK) | (refine hK _ ?_; clear hK KK; try simp only [upd_mk]))) | ((with_reducible first | refine o_nil (hT _ _ ?_) | refine h_nil (hT _ ?_)); clear hT KT) | ((first | refine gd fun AA BB hA hB => ?_ | refine tc fun AA BB hA hB => ?_); first | (refine go ?_; (first | refine hA ?_ | refine hB ?_); clear hA hB AA BB) | (refine go2 ?_ ?_ <;> intro hb <;> (first | refine hA ?_ | refine hB ?_) <;> clear hA hB AA BB <;> (try simp only [hb, decide_true, decide_false]) <;> (try (exfalso; first | (simp at hb; done) | (simp at hb; omega))))) | (with_reducible refine skS ?_; simp only [upd_mk]) | (refine tdr (id := 7) fun KT hT => ?_; simp only [List.append_eq, List.cons_append, List.nil_append]) | with_reducible refine tdr fun KT hT => ?_ | with_reducible refine bY ?_)
     all_goals clear fx)
    clear k1 k2 k3 k4 k5 k6 k8 k9 k10 k12 cH cS
    cases v2 with
    | true =>
      obtain ⟨h1, h2, h3⟩ := hD _ (k16 rfl)
      simp only at h1 h2
      subst h1; subst h2; subst h3
      cases v3 with
      | true =>
        obtain ⟨j1, j2, j3⟩ := hR _ (k17 rfl)
        simp only at j1 j2
        subst j1; subst j2; subst j3
        have d1 := sameSeg_l r r sh
        simp only [decide_true] at d1
        simp only [segRow] at d1
        (have fx := And.intro (@bneI_self) (And.intro (@beqI_self) (And.intro (@decI_self) (And.intro (@wl) (@fl))))
         repeat' (first | with_reducible refine go ?_ | with_reducible refine t_region fun KT hT => ?_ | (refine gp fun KK hK => ?_; first | (refine hK _ _ ?_; clear hK KK) | (refine hK _ ?_; clear hK KK; try simp only [upd_mk]) | ((with_reducible first | refine .inl ⟨_, _, ⟨k7, rfl, csq⟩, hK _ _ (nz ?_)⟩ | refine .inl ⟨_, _, ⟨k11, rfl, csq⟩, hK _ _ (nz ?_)⟩ | refine .inl ⟨_, _, ⟨k13, rfl, csq⟩, hK _ _ (nz ?_)⟩ | refine .inl ⟨_, _, ⟨d1, rfl, csq⟩, hK _ _ (nz ?_)⟩ | refine ⟨_, ⟨k7, rfl, rfl, csq⟩, hK _ (nz ?_)⟩ | refine ⟨_, ⟨k11, rfl, rfl, csq⟩, hK _ (nz ?_)⟩ | refine ⟨_, ⟨k13, rfl, rfl, csq⟩, hK _ (nz ?_)⟩ | refine ⟨_, ⟨d1, rfl, rfl, csq⟩, hK _ (nz ?_)⟩); clear hK KK) | (refine ⟨by first | exact eq_hop | exact eq_pol, hK _ _ ?_⟩; clear hK KK) | (refine ⟨by first | exact eq_hop | exact eq_pol, hK _ (nz ?_)⟩; clear hK KK) | ((repeat refine And.intro (by first | omega | (rw [getD_map_lt (by omega)]; rfl) | (simp; first | done | omega)) ?_); first | (refine hK _ _ ?_; clear hK KK) | (refine hK _ ?_; clear hK KK; try simp only [upd_mk]))) | ((with_reducible first | refine o_nil (hT _ _ ?_) | refine h_nil (hT _ ?_)); clear hT KT) | ((first | refine gd fun AA BB hA hB => ?_ | refine tc fun AA BB hA hB => ?_); first | (refine go ?_; (first | refine hA ?_ | refine hB ?_); clear hA hB AA BB) | (refine go2 ?_ ?_ <;> intro hb <;> (first | refine hA ?_ | refine hB ?_) <;> clear hA hB AA BB <;> (try simp only [hb, decide_true, decide_false]) <;> (try (exfalso; first | (simp at hb; done) | (simp at hb; omega))))) | (with_reducible refine skS ?_; simp only [upd_mk]) | with_reducible refine tdr fun KT hT => ?_ | with_reducible refine bY ?_)
         all_goals clear fx)
        (refine fe ?_; try exact trivial)
      | false =>
        have d1 := ey0 rfl
        rw [d1, decide_eq_true rfl] at k15
        rw [el0 rfl] at k11
        subst d1
        (have fx := And.intro (@bneI_self) (And.intro (@beqI_self) (@decI_self))
         repeat' (first | with_reducible refine go ?_ | with_reducible refine t_region fun KT hT => ?_ | (refine gp fun KK hK => ?_; first | (refine hK _ _ ?_; clear hK KK) | (refine hK _ ?_; clear hK KK; try simp only [upd_mk]) | ((with_reducible first | refine .inl ⟨_, _, ⟨k7, rfl, csq⟩, hK _ _ (nz ?_)⟩ | refine .inl ⟨_, _, ⟨k11, rfl, csq⟩, hK _ _ (nz ?_)⟩ | refine .inl ⟨_, _, ⟨k13, rfl, csq⟩, hK _ _ (nz ?_)⟩ | refine .inl ⟨_, _, ⟨k15, rfl, csq⟩, hK _ _ (nz ?_)⟩ | refine ⟨_, ⟨k7, rfl, rfl, csq⟩, hK _ (nz ?_)⟩ | refine ⟨_, ⟨k11, rfl, rfl, csq⟩, hK _ (nz ?_)⟩ | refine ⟨_, ⟨k13, rfl, rfl, csq⟩, hK _ (nz ?_)⟩ | refine ⟨_, ⟨k15, rfl, rfl, csq⟩, hK _ (nz ?_)⟩); clear hK KK) | (refine ⟨by first | exact eq_hop | exact eq_pol, hK _ _ ?_⟩; clear hK KK) | (refine ⟨by first | exact eq_hop | exact eq_pol, hK _ (nz ?_)⟩; clear hK KK) | ((repeat refine And.intro (by first | omega | (rw [getD_map_lt (by omega)]; rfl) | (simp; first | done | omega)) ?_); first | (refine hK _ _ ?_; clear hK KK) | (refine hK _ ?_; clear hK KK; try simp only [upd_mk]))) | ((with_reducible first | refine o_nil (hT _ _ ?_) | refine h_nil (hT _ ?_)); clear hT KT) | ((first | refine gd fun AA BB hA hB => ?_ | refine tc fun AA BB hA hB => ?_); first | (refine go ?_; (first | refine hA ?_ | refine hB ?_); clear hA hB AA BB) | (refine go2 ?_ ?_ <;> intro hb <;> (first | refine hA ?_ | refine hB ?_) <;> clear hA hB AA BB <;> (try simp only [hb, decide_true, decide_false]) <;> (try (exfalso; first | (simp at hb; done) | (simp at hb; omega))))) | (with_reducible refine skS ?_; simp only [upd_mk]) | with_reducible refine tdr fun KT hT => ?_ | with_reducible refine bY ?_)
         all_goals clear fx)
        (refine fe ?_; try exact trivial)
    | false =>
      have d2 := ex0 rfl
      rw [d2, decide_eq_true rfl] at k14
      subst d2
      cases v3 with
      | true =>
        obtain ⟨j1, j2, j3⟩ := hR _ (k17 rfl)
        simp only at j1 j2
        subst j1; subst j2; subst j3
        have d1 := sameSeg_l r r sh
        simp only [decide_true] at d1
        simp only [segRow] at d1
        (have fx := And.intro (@bneI_self) (And.intro (@beqI_self) (And.intro (@decI_self) (And.intro (@wl) (@fl))))
         repeat' (first | with_reducible refine go ?_ | with_reducible refine t_region fun KT hT => ?_ | (refine gp fun KK hK => ?_; first | (refine hK _ _ ?_; clear hK KK) | (refine hK _ ?_; clear hK KK; try simp only [upd_mk]) | ((with_reducible first | refine .inl ⟨_, _, ⟨k7, rfl, csq⟩, hK _ _ (nz ?_)⟩ | refine .inl ⟨_, _, ⟨k11, rfl, csq⟩, hK _ _ (nz ?_)⟩ | refine .inl ⟨_, _, ⟨k13, rfl, csq⟩, hK _ _ (nz ?_)⟩ | refine .inl ⟨_, _, ⟨d1, rfl, csq⟩, hK _ _ (nz ?_)⟩ | refine .inl ⟨_, _, ⟨k14, rfl, csq⟩, hK _ _ (nz ?_)⟩ | refine ⟨_, ⟨k7, rfl, rfl, csq⟩, hK _ (nz ?_)⟩ | refine ⟨_, ⟨k11, rfl, rfl, csq⟩, hK _ (nz ?_)⟩ | refine ⟨_, ⟨k13, rfl, rfl, csq⟩, hK _ (nz ?_)⟩ | refine ⟨_, ⟨d1, rfl, rfl, csq⟩, hK _ (nz ?_)⟩ | refine ⟨_, ⟨k14, rfl, rfl, csq⟩, hK _ (nz ?_)⟩); clear hK KK) | (refine ⟨by first | exact eq_hop | exact eq_pol, hK _ _ ?_⟩; clear hK KK) | (refine ⟨by first | exact eq_hop | exact eq_pol, hK _ (nz ?_)⟩; clear hK KK) | ((repeat refine And.intro (by first | omega | (rw [getD_map_lt (by omega)]; rfl) | (simp; first | done | omega)) ?_); first | (refine hK _ _ ?_; clear hK KK) | (refine hK _ ?_; clear hK KK; try simp only [upd_mk]))) | ((with_reducible first | refine o_nil (hT _ _ ?_) | refine h_nil (hT _ ?_)); clear hT KT) | ((first | refine gd fun AA BB hA hB => ?_ | refine tc fun AA BB hA hB => ?_); first | (refine go ?_; (first | refine hA ?_ | refine hB ?_); clear hA hB AA BB) | (refine go2 ?_ ?_ <;> intro hb <;> (first | refine hA ?_ | refine hB ?_) <;> clear hA hB AA BB <;> (try simp only [hb, decide_true, decide_false]) <;> (try (exfalso; first | (simp at hb; done) | (simp at hb; omega))))) | (with_reducible refine skS ?_; simp only [upd_mk]) | with_reducible refine tdr fun KT hT => ?_ | with_reducible refine bY ?_)
         all_goals clear fx)
        (refine fe ?_; try exact trivial)
      | false =>
        have d1 := ey0 rfl
        rw [d1, decide_eq_true rfl] at k15
        rw [el0 rfl] at k11
        subst d1
        (have fx := And.intro (@bneI_self) (And.intro (@beqI_self) (@decI_self))
         repeat' (first | with_reducible refine go ?_ | with_reducible refine t_region fun KT hT => ?_ | (refine gp fun KK hK => ?_; first | (refine hK _ _ ?_; clear hK KK) | (refine hK _ ?_; clear hK KK; try simp only [upd_mk]) | ((with_reducible first | refine .inl ⟨_, _, ⟨k7, rfl, csq⟩, hK _ _ (nz ?_)⟩ | refine .inl ⟨_, _, ⟨k11, rfl, csq⟩, hK _ _ (nz ?_)⟩ | refine .inl ⟨_, _, ⟨k13, rfl, csq⟩, hK _ _ (nz ?_)⟩ | refine .inl ⟨_, _, ⟨k15, rfl, csq⟩, hK _ _ (nz ?_)⟩ | refine .inl ⟨_, _, ⟨k14, rfl, csq⟩, hK _ _ (nz ?_)⟩ | refine ⟨_, ⟨k7, rfl, rfl, csq⟩, hK _ (nz ?_)⟩ | refine ⟨_, ⟨k11, rfl, rfl, csq⟩, hK _ (nz ?_)⟩ | refine ⟨_, ⟨k13, rfl, rfl, csq⟩, hK _ (nz ?_)⟩ | refine ⟨_, ⟨k15, rfl, rfl, csq⟩, hK _ (nz ?_)⟩ | refine ⟨_, ⟨k14, rfl, rfl, csq⟩, hK _ (nz ?_)⟩); clear hK KK) | (refine ⟨by first | exact eq_hop | exact eq_pol, hK _ _ ?_⟩; clear hK KK) | (refine ⟨by first | exact eq_hop | exact eq_pol, hK _ (nz ?_)⟩; clear hK KK) | ((repeat refine And.intro (by first | omega | (rw [getD_map_lt (by omega)]; rfl) | (simp; first | done | omega)) ?_); first | (refine hK _ _ ?_; clear hK KK) | (refine hK _ ?_; clear hK KK; try simp only [upd_mk]))) | ((with_reducible first | refine o_nil (hT _ _ ?_) | refine h_nil (hT _ ?_)); clear hT KT) | ((first | refine gd fun AA BB hA hB => ?_ | refine tc fun AA BB hA hB => ?_); first | (refine go ?_; (first | refine hA ?_ | refine hB ?_); clear hA hB AA BB) | (refine go2 ?_ ?_ <;> intro hb <;> (first | refine hA ?_ | refine hB ?_) <;> clear hA hB AA BB <;> (try simp only [hb, decide_true, decide_false]) <;> (try (exfalso; first | (simp at hb; done) | (simp at hb; omega))))) | (with_reducible refine skS ?_; simp only [upd_mk]) | with_reducible refine tdr fun KT hT => ?_ | with_reducible refine bY ?_)
         all_goals clear fx)
        (refine fe ?_; try exact trivial)
  · have cb := big_ok b
    have e0 : decide ((1048576 : Int) < (b.length : Int)) = true := decide_eq_true (by omega)
    rw [e0] at cb
    refine acall_mk Try.func6 rfl Try.ntmps6 Try.results6 (by kernel_rfl) (by simp) ?_
    simp only [args, Nat.zero_add, Nat.reduceAdd]
    repeat' (first | with_reducible refine go ?_ | with_reducible refine t_region fun KT hT => ?_ | (refine gp fun KK hK => ?_; first | (refine hK _ _ ?_; clear hK KK) | (refine hK _ ?_; clear hK KK; try simp only [upd_mk]) | ((with_reducible first | refine .inl ⟨_, _, ⟨cb, rfl, csq⟩, hK _ _ (nz ?_)⟩ | refine ⟨_, ⟨cb, rfl, rfl, csq⟩, hK _ (nz ?_)⟩); clear hK KK) | (refine ⟨by first | exact eq_hop | exact eq_pol, hK _ _ ?_⟩; clear hK KK) | (refine ⟨by first | exact eq_hop | exact eq_pol, hK _ (nz ?_)⟩; clear hK KK) | ((repeat refine And.intro (by first | omega | (rw [getD_map_lt (by omega)]; rfl) | (simp; first | done | omega)) ?_); first | (refine hK _ _ ?_; clear hK KK) | (refine hK _ ?_; clear hK KK; try simp only [upd_mk]))) | ((with_reducible first | refine o_nil (hT _ _ ?_) | refine h_nil (hT _ ?_)); clear hT KT) | ((first | refine gd fun AA BB hA hB => ?_ | refine tc fun AA BB hA hB => ?_); first | (refine go ?_; (first | refine hA ?_ | refine hB ?_); clear hA hB AA BB) | (refine go2 ?_ ?_ <;> intro hb <;> (first | refine hA ?_ | refine hB ?_) <;> clear hA hB AA BB <;> (try simp only [hb, decide_true, decide_false]) <;> (try (exfalso; first | (simp at hb; done) | (simp at hb; omega))))) | (with_reducible refine skS ?_; simp only [upd_mk]) | with_reducible refine tdr fun KT hT => ?_ | with_reducible refine bY ?_)
    (refine fe ?_; try exact trivial)

end Go.Proofs.Ytmiclkgkfkcnoaa
