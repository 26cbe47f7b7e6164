/- The walk of the law FnSegs. -/
import Derived.Test.YtmiclkgkfkcnoaaRows
import Derived.WalkKit
import Derived.ProofKit
import Derived.OpenShut
import Derived.ShutString
import Derived.ChangeOld
import Derived.Below
import Derived.Test.YtmiclkgkfkcnoaaLa2
import Derived.Test.YtmiclkgkfkcnoaaLc1
import Derived.Test.YtmiclkgkfkcnoaaLn1
import Derived.Test.YtmiclkgkfkcnoaaLp1
import Derived.Test.YtmiclkgkfkcnoaaLzc1
import Derived.Test.YtmiclkgkfkcnoaaLzd1
import Derived.Test.YtmiclkgkfkcnoaaLzn2
namespace Go.Proofs.Ytmiclkgkfkcnoaa
open Go.ChangeShapes Go.WideShapes Go.ChangeAt Go.RowKit
open Go.ChangeMaps (open_string shut_string)
set_option linter.unusedVariables false
set_option linter.unusedSimpArgs false
set_option maxRecDepth 100000
set_option linter.defProp false
set_option synthInstance.maxHeartbeats 2000000
namespace GWFnSegs
def gx := And.intro (@hopRow.eq_1) (And.intro (@polRow.eq_1) (And.intro (@segRow.eq_1) (And.intro (@intRow.eq_1) (And.intro (@rowLen_ints) (And.intro (@rowLen_nil) (And.intro (@rowLen_cons) (And.intro (@rowLen_append) (And.intro (@lenL_app) (And.intro (@byteRow.eq_1) (And.intro (@rowLen_bytes) (And.intro (@bytesOf_map) (And.intro (@bytesOf_cons) (And.intro (@bytesOf_one) (And.intro (@rowLen_strs) (And.intro (@asRow.eq_1) (And.intro (@lkRow.eq_1) (And.intro (@tpRow.eq_1) (And.intro (@rowLen_hops) (And.intro (@rowLen_ases) (And.intro (@rowLen_links) (And.intro (@bcRow.eq_1) (And.intro (@rowLen_bcs) (@u8Row.eq_1)))))))))))))))))))))))
end GWFnSegs
open GWFnSegs

set_option maxHeartbeats 8000000 in
theorem fnSegs_law {x0 : D} (i0 : IsC (.slice [.int .u8]) x0) : ACall Try.prog 9 [x0] (.bool true) [] := by
  
  obtain ⟨b, rfl, hm⟩ := isBytes i0
  by_cases hl : b.length ≤ 1048576
  · have e0 : decide ((1048576 : Int) < (b.length : Int)) = false := decide_eq_false (by omega)
    have cb := big_ok b
    rw [e0] at cb
    refine acall_mk Try.func9 rfl Try.ntmps9 Try.results9 (by kernel_rfl) (by simp) ?_
    simp only [args, Nat.zero_add, Nat.reduceAdd]
    repeat' (first | with_reducible refine go ?_ | with_reducible refine t_region fun KT hT => ?_ | (refine gp fun KK hK => ?_; first | (refine hK _ _ ?_; clear hK KK) | (refine hK _ ?_; clear hK KK; try simp only [upd_mk]) | ((with_reducible first | refine .inl ⟨_, _, ⟨cb, rfl, csq⟩, hK _ _ (nz ?_)⟩ | refine ⟨_, ⟨cb, rfl, rfl, csq⟩, hK _ (nz ?_)⟩); clear hK KK) | (refine ⟨by first | exact eq_hop | exact eq_pol, hK _ _ ?_⟩; clear hK KK) | (refine ⟨by first | exact eq_hop | exact eq_pol, hK _ (nz ?_)⟩; clear hK KK) | ((repeat refine And.intro (by first | omega | (rw [getD_map_lt (by omega)]; rfl) | (simp; first | done | omega)) ?_); first | (refine hK _ _ ?_; clear hK KK) | (refine hK _ ?_; clear hK KK; try simp only [upd_mk]))) | ((with_reducible first | refine o_nil (hT _ _ ?_) | refine h_nil (hT _ ?_)); clear hT KT) | ((first | refine gd fun AA BB hA hB => ?_ | refine tc fun AA BB hA hB => ?_); first | (refine go ?_; (first | refine hA ?_ | refine hB ?_); clear hA hB AA BB) | (refine go2 ?_ ?_ <;> intro hb <;> (first | refine hA ?_ | refine hB ?_) <;> clear hA hB AA BB <;> (try simp only [hb, decide_true, decide_false]) <;> (try (exfalso; first | (simp at hb; done) | (simp at hb; omega))))) | (with_reducible refine skS ?_; simp only [upd_mk]) | with_reducible refine tdr fun KT hT => ?_ | with_reducible refine bY ?_)
    (refine gp fun KK hK => ?_; refine .inr (.inr (eQ [] (drawSg_e b hl) (fun x1 hx1 => hK _ _ ?_))); refine nze ?_; clear hK KK)
    obtain ⟨t, s⟩ := x1
    obtain ⟨ht, kd, hkd, hg⟩ := hx1
    simp only at ht hg
    repeat' (first | with_reducible refine go ?_ | with_reducible refine t_region fun KT hT => ?_ | (refine gp fun KK hK => ?_; first | (refine hK _ _ ?_; clear hK KK) | (refine hK _ ?_; clear hK KK; try simp only [upd_mk]) | (refine ⟨by first | exact eq_hop | exact eq_pol, hK _ _ ?_⟩; clear hK KK) | (refine ⟨by first | exact eq_hop | exact eq_pol, hK _ (nz ?_)⟩; clear hK KK) | ((repeat refine And.intro (by first | omega | (rw [getD_map_lt (by omega)]; rfl) | (simp; first | done | omega)) ?_); first | (refine hK _ _ ?_; clear hK KK) | (refine hK _ ?_; clear hK KK; try simp only [upd_mk]))) | ((with_reducible first | refine o_nil (hT _ _ ?_) | refine h_nil (hT _ ?_)); clear hT KT) | ((first | refine gd fun AA BB hA hB => ?_ | refine tc fun AA BB hA hB => ?_); first | (refine go ?_; (first | refine hA ?_ | refine hB ?_); clear hA hB AA BB) | (refine go2 ?_ ?_ <;> intro hb <;> (first | refine hA ?_ | refine hB ?_) <;> clear hA hB AA BB <;> (try simp only [hb, decide_true, decide_false]) <;> (try (exfalso; first | (simp at hb; done) | (simp at hb; omega))))) | (with_reducible refine skS ?_; simp only [upd_mk]) | with_reducible refine tdr fun KT hT => ?_ | with_reducible refine bY ?_)
    (refine gp fun KK hK => ?_; refine .inr (.inr (eQ [] (drawWF_e b hl) (fun x2 hx2 => hK _ _ ?_))); refine nze ?_; clear hK KK)
    obtain ⟨u, r⟩ := x2
    obtain ⟨hu, hr⟩ := hx2
    simp only at hu hr
    repeat' (first | with_reducible refine go ?_ | with_reducible refine t_region fun KT hT => ?_ | (refine gp fun KK hK => ?_; first | (refine hK _ _ ?_; clear hK KK) | (refine hK _ ?_; clear hK KK; try simp only [upd_mk]) | (refine ⟨by first | exact eq_hop | exact eq_pol, hK _ _ ?_⟩; clear hK KK) | (refine ⟨by first | exact eq_hop | exact eq_pol, hK _ (nz ?_)⟩; clear hK KK) | ((repeat refine And.intro (by first | omega | (rw [getD_map_lt (by omega)]; rfl) | (simp; first | done | omega)) ?_); first | (refine hK _ _ ?_; clear hK KK) | (refine hK _ ?_; clear hK KK; try simp only [upd_mk]))) | ((with_reducible first | refine o_nil (hT _ _ ?_) | refine h_nil (hT _ ?_)); clear hT KT) | ((first | refine gd fun AA BB hA hB => ?_ | refine tc fun AA BB hA hB => ?_); first | (refine go ?_; (first | refine hA ?_ | refine hB ?_); clear hA hB AA BB) | (refine go2 ?_ ?_ <;> intro hb <;> (first | refine hA ?_ | refine hB ?_) <;> clear hA hB AA BB <;> (try simp only [hb, decide_true, decide_false]) <;> (try (exfalso; first | (simp at hb; done) | (simp at hb; omega))))) | (with_reducible refine skS ?_; simp only [upd_mk]) | with_reducible refine tdr fun KT hT => ?_ | with_reducible refine bY ?_)
    (refine gp fun KK hK => ?_; refine .inr (.inr (eQ [] (drawBA_e b hl) (fun x3 hx3 => hK _ _ ?_))); refine nze ?_; clear hK KK)
    obtain ⟨p, i⟩ := x3
    simp only at hx3
    repeat' (first | with_reducible refine go ?_ | with_reducible refine t_region fun KT hT => ?_ | (refine gp fun KK hK => ?_; first | (refine hK _ _ ?_; clear hK KK) | (refine hK _ ?_; clear hK KK; try simp only [upd_mk]) | (refine ⟨by first | exact eq_hop | exact eq_pol, hK _ _ ?_⟩; clear hK KK) | (refine ⟨by first | exact eq_hop | exact eq_pol, hK _ (nz ?_)⟩; clear hK KK) | ((repeat refine And.intro (by first | omega | (rw [getD_map_lt (by omega)]; rfl) | (simp; first | done | omega)) ?_); first | (refine hK _ _ ?_; clear hK KK) | (refine hK _ ?_; clear hK KK; try simp only [upd_mk]))) | ((with_reducible first | refine o_nil (hT _ _ ?_) | refine h_nil (hT _ ?_)); clear hT KT) | ((first | refine gd fun AA BB hA hB => ?_ | refine tc fun AA BB hA hB => ?_); first | (refine go ?_; (first | refine hA ?_ | refine hB ?_); clear hA hB AA BB) | (refine go2 ?_ ?_ <;> intro hb <;> (first | refine hA ?_ | refine hB ?_) <;> clear hA hB AA BB <;> (try simp only [hb, decide_true, decide_false]) <;> (try (exfalso; first | (simp at hb; done) | (simp at hb; omega))))) | (with_reducible refine skS ?_; simp only [upd_mk]) | with_reducible refine tdr fun KT hT => ?_ | with_reducible refine bY ?_)
    (refine gp fun KK hK => ?_; refine .inr (.inr (eQ [] (drawES_e b hl) (fun x4 hx4 => hK _ _ ?_))); refine nze ?_; clear hK KK)
    obtain ⟨x, y⟩ := x4
    simp only at hx4
    have t1 : t.ases.length ≤ 1048576 := by have := ht.n8; omega
    have t2 : t.links.length ≤ 1048576 := by have := ht.ln; omega
    have u1 : u.ases.length ≤ 1048576 := by have := hu.n8; omega
    have u2 : u.links.length ≤ 1048576 := by have := hu.ln; omega
    have r1 : r.hops.length ≤ 1048576 := by have := hr.len; omega
    have p1 : p.hops.length ≤ 1048576 := by have := hx3.len; omega
    have s1 : s.hops.length ≤ 1048576 := by have := hg.len; omega
    have wu : tpW u := hu.s.w
    have wr : ∀ h ∈ r.hops, hopW h := fun h hh => by
      have := hr.hop h hh
      simp only [hopS] at this
      simp only [hopW, i64R]; omega
    have k1 := well_i u r u1 u2 r1
    have k2 := well_s u r u1 u2 r1
    have k3 := betaAt_i p i p1
    have k4 := betaAt_s p i p1
    have k5 := eqSegs_i x y (by omega)
    have k6 := sameSeg_l x y (by omega)
    have k7 := (ases_i p p1).ro
    have k8 := (ases_s p p1).ro
    simp only [view, viewL, tabOf, List.getElem?_cons_zero, Option.map_some] at k7 k8
    have k9 := sameInts_ok (ases p.hops) (ases p.hops) (by simp only [ases, List.length_map]; omega)
    have k10 := firstAS_i p
    have k11 := firstAS_s p
    have k12 := lastAS_i p p1
    have k13 := lastAS_s p p1
    have k14 := isTerm_i p p1
    have k15 := isTerm_s p p1
    have k16 := segExp_i p p1
    have k17 := segExp_s p p1
    have k18 := fmtSeg_i u r wu wr u1 r1
    have k19 := fmtSeg_s u r wu wr u1 r1
    simp only [decide_true] at k9
    generalize wellF u r = v1 at *
    generalize betaAt p i = v2 at *
    generalize decide (x = y) = v3 at *
    generalize ases p.hops = v4 at *
    generalize firstAS p = v5 at *
    generalize lastAS p = v6 at *
    generalize isTerm p = v7 at *
    generalize leastEx p.hops = v8 at *
    generalize fmtSeg u r = v9 at *
    have n5 : (v9 != v9) = false := by simp
    have e5 : (v9 == v9) = true := by simp
    (have fx := And.intro (@e5) (And.intro (@n5) (And.intro (@bneI_self) (@bnB)))
     repeat' (first | with_reducible refine go ?_ | with_reducible refine t_region fun KT hT => ?_ | (refine gp fun KK hK => ?_; first | (refine hK _ _ ?_; clear hK KK) | (refine hK _ ?_; clear hK KK; try simp only [upd_mk]) | ((with_reducible first | refine .inl ⟨_, _, ⟨k1, rfl, csq⟩, hK _ _ (nz ?_)⟩ | refine .inl ⟨_, _, ⟨k2, rfl, csq⟩, hK _ _ (nz ?_)⟩ | refine .inl ⟨_, _, ⟨k3, rfl, csq⟩, hK _ _ (nz ?_)⟩ | refine .inl ⟨_, _, ⟨k4, rfl, csq⟩, hK _ _ (nz ?_)⟩ | refine .inl ⟨_, _, ⟨k5, rfl, csq⟩, hK _ _ (nz ?_)⟩ | refine .inl ⟨_, _, ⟨k6, rfl, csq⟩, hK _ _ (nz ?_)⟩ | refine .inl ⟨_, _, ⟨k7, rfl, csq⟩, hK _ _ (nz ?_)⟩ | refine .inl ⟨_, _, ⟨k8, rfl, csq⟩, hK _ _ (nz ?_)⟩ | refine .inl ⟨_, _, ⟨k9, rfl, csq⟩, hK _ _ (nz ?_)⟩ | refine .inl ⟨_, _, ⟨k10, rfl, csq⟩, hK _ _ (nz ?_)⟩ | refine .inl ⟨_, _, ⟨k11, rfl, csq⟩, hK _ _ (nz ?_)⟩ | refine .inl ⟨_, _, ⟨k12, rfl, csq⟩, hK _ _ (nz ?_)⟩ | refine .inl ⟨_, _, ⟨k13, rfl, csq⟩, hK _ _ (nz ?_)⟩ | refine .inl ⟨_, _, ⟨k14, rfl, csq⟩, hK _ _ (nz ?_)⟩ | refine .inl ⟨_, _, ⟨k15, rfl, csq⟩, hK _ _ (nz ?_)⟩ | refine .inl ⟨_, _, ⟨k16, rfl, csq⟩, hK _ _ (nz ?_)⟩ | refine .inl ⟨_, _, ⟨k17, rfl, csq⟩, hK _ _ (nz ?_)⟩ | refine .inl ⟨_, _, ⟨k18, rfl, csq⟩, hK _ _ (nz ?_)⟩ | refine .inl ⟨_, _, ⟨k19, rfl, csq⟩, hK _ _ (nz ?_)⟩ | refine ⟨_, ⟨k1, rfl, rfl, csq⟩, hK _ (nz ?_)⟩ | refine ⟨_, ⟨k2, rfl, rfl, csq⟩, hK _ (nz ?_)⟩ | refine ⟨_, ⟨k3, rfl, rfl, csq⟩, hK _ (nz ?_)⟩ | refine ⟨_, ⟨k4, rfl, rfl, csq⟩, hK _ (nz ?_)⟩ | refine ⟨_, ⟨k5, rfl, rfl, csq⟩, hK _ (nz ?_)⟩ | refine ⟨_, ⟨k6, rfl, rfl, csq⟩, hK _ (nz ?_)⟩ | refine ⟨_, ⟨k7, rfl, rfl, csq⟩, hK _ (nz ?_)⟩ | refine ⟨_, ⟨k8, rfl, rfl, csq⟩, hK _ (nz ?_)⟩ | refine ⟨_, ⟨k9, rfl, rfl, csq⟩, hK _ (nz ?_)⟩ | refine ⟨_, ⟨k10, rfl, rfl, csq⟩, hK _ (nz ?_)⟩ | refine ⟨_, ⟨k11, rfl, rfl, csq⟩, hK _ (nz ?_)⟩ | refine ⟨_, ⟨k12, rfl, rfl, csq⟩, hK _ (nz ?_)⟩ | refine ⟨_, ⟨k13, rfl, rfl, csq⟩, hK _ (nz ?_)⟩ | refine ⟨_, ⟨k14, rfl, rfl, csq⟩, hK _ (nz ?_)⟩ | refine ⟨_, ⟨k15, rfl, rfl, csq⟩, hK _ (nz ?_)⟩ | refine ⟨_, ⟨k16, rfl, rfl, csq⟩, hK _ (nz ?_)⟩ | refine ⟨_, ⟨k17, rfl, rfl, csq⟩, hK _ (nz ?_)⟩ | refine ⟨_, ⟨k18, rfl, rfl, csq⟩, hK _ (nz ?_)⟩ | refine ⟨_, ⟨k19, rfl, rfl, csq⟩, hK _ (nz ?_)⟩); clear hK KK) | (refine ⟨by first | exact eq_hop | exact eq_pol, hK _ _ ?_⟩; clear hK KK) | (refine ⟨by first | exact eq_hop | exact eq_pol, hK _ (nz ?_)⟩; clear hK KK) | ((repeat refine And.intro (by first | omega | (rw [getD_map_lt (by omega)]; rfl) | (simp; first | done | omega)) ?_); first | (refine hK _ _ ?_; clear hK KK) | (refine hK _ ?_; clear hK KK; try simp only [upd_mk]))) | ((with_reducible first | refine o_nil (hT _ _ ?_) | refine h_nil (hT _ ?_)); clear hT KT) | ((first | refine gd fun AA BB hA hB => ?_ | refine tc fun AA BB hA hB => ?_); first | (refine go ?_; (first | refine hA ?_ | refine hB ?_); clear hA hB AA BB) | (refine go2 ?_ ?_ <;> intro hb <;> (first | refine hA ?_ | refine hB ?_) <;> clear hA hB AA BB <;> (try simp only [hb, decide_true, decide_false]) <;> (try (exfalso; first | (simp at hb; done) | (simp at hb; omega))))) | (with_reducible refine skS ?_; simp only [upd_mk]) | (refine tdr (id := 7) fun KT hT => ?_; simp only [List.append_eq, List.cons_append, List.nil_append]) | with_reducible refine tdr fun KT hT => ?_ | with_reducible refine bY ?_)
     all_goals clear fx)
    clear k1 k2 k3 k4 k5 k6 k7 k8 k9 k10 k11 k12 k13 k14 k15 k16 k17 k18 k19
    · have q : s.hops = [] := List.length_eq_zero_iff.1 (by simpa using hb)
      obtain ⟨ts, be, H⟩ := s
      simp only at q
      subst q
      have c1 := firstAS_i ⟨ts, be, []⟩
      have c2 := segExp_i ⟨ts, be, []⟩ (by simp)
      have f1 : firstAS ⟨ts, be, []⟩ = -1 := rfl
      have f2 : leastEx ([] : List Hp) = 0 := rfl
      rw [f1] at c1
      simp only [segRow, List.map_nil, f2] at c1 c2
      repeat' (first | with_reducible refine go ?_ | with_reducible refine t_region fun KT hT => ?_ | (refine gp fun KK hK => ?_; first | (refine hK _ _ ?_; clear hK KK) | (refine hK _ ?_; clear hK KK; try simp only [upd_mk]) | ((with_reducible first | refine .inl ⟨_, _, ⟨c1, rfl, csq⟩, hK _ _ (nz ?_)⟩ | refine .inl ⟨_, _, ⟨c2, rfl, csq⟩, hK _ _ (nz ?_)⟩ | refine ⟨_, ⟨c1, rfl, rfl, csq⟩, hK _ (nz ?_)⟩ | refine ⟨_, ⟨c2, rfl, rfl, csq⟩, hK _ (nz ?_)⟩); clear hK KK) | (refine ⟨by first | exact eq_hop | exact eq_pol, hK _ _ ?_⟩; clear hK KK) | (refine ⟨by first | exact eq_hop | exact eq_pol, hK _ (nz ?_)⟩; clear hK KK) | ((repeat refine And.intro (by first | omega | (rw [getD_map_lt (by omega)]; rfl) | (simp; first | done | omega)) ?_); first | (refine hK _ _ ?_; clear hK KK) | (refine hK _ ?_; clear hK KK; try simp only [upd_mk]))) | ((with_reducible first | refine o_nil (hT _ _ ?_) | refine h_nil (hT _ ?_)); clear hT KT) | ((first | refine gd fun AA BB hA hB => ?_ | refine tc fun AA BB hA hB => ?_); first | (refine go ?_; (first | refine hA ?_ | refine hB ?_); clear hA hB AA BB) | (refine go2 ?_ ?_ <;> intro hb <;> (first | refine hA ?_ | refine hB ?_) <;> clear hA hB AA BB <;> (try simp only [hb, decide_true, decide_false]) <;> (try (exfalso; first | (simp at hb; done) | (simp at hb; omega))))) | (with_reducible refine skS ?_; simp only [upd_mk]) | with_reducible refine tdr fun KT hT => ?_ | with_reducible refine bY ?_)
      (refine fe ?_; try exact trivial)
    · have hV : Vs t s kd := hg.ok.resolve_left (by intro q; rw [q] at hb; simp at hb)
      have hlen := well_len hV.well
      refine t_loop (fun k : Nat => [(3, .ptr 3 0 0), (4, .ptr 4 0 0), (11, .int .i64 (k : Int))]) (fun _ => [(10, .box (segRow y)), (9, .box (segRow x)), (7, .box (segRow p)), (6, .box (segRow r)), (5, .box (tpRow u)), (4, .box (segRow s)), (3, .box (tpRow t))]) (fun k => k ≤ s.hops.length) (fun k => s.hops.length - k) 0 (imp_keep (by simp [Keep, mk]) (by simp [KeepT, mkT]) rfl) (Nat.zero_le _) ?_
      intro k hk
      rcases Nat.lt_or_ge k s.hops.length with h | h
      · have e1 : decide ((k : Int) < (s.hops.length : Int)) = true := decide_eq_true (by omega)
        have e2 := getD_map_lt (f := hopRow) h
        have wk := wrapS (show k < 4611686018427387904 by omega)
        have c1 := betaAt_i s ((k : Int) + 1) s1
        have c2 := betaAt_i s (k : Int) s1
        have c3 := addM2_i (betaAt s (k : Int)) s.hops[k].mac
        have c4 := segExp_i s s1
        rw [betaAt_next h] at c1
        have e4 : decide (s.hops[k].ex < leastEx s.hops) = false := decide_eq_false (by have := leastEx_le (List.getElem_mem h); omega)
        generalize addM2 (betaAt s (k : Int)) s.hops[k].mac = w1 at *
        generalize betaAt s (k : Int) = w2 at *
        generalize leastEx s.hops = w3 at *
        simp only [hopRow] at e2
        generalize s.hops[k] = g at *
        (have fx := And.intro (@e1) (And.intro (@e2) (And.intro (@h) (And.intro (@wk) (And.intro (@e4) (@bneI_self)))))
         repeat' (first | with_reducible refine go ?_ | with_reducible refine t_region fun KT hT => ?_ | (refine gp fun KK hK => ?_; first | (refine hK _ _ ?_; clear hK KK) | (refine hK _ ?_; clear hK KK; try simp only [upd_mk]) | ((with_reducible first | refine .inl ⟨_, _, ⟨c1, rfl, csq⟩, hK _ _ (nz ?_)⟩ | refine .inl ⟨_, _, ⟨c2, rfl, csq⟩, hK _ _ (nz ?_)⟩ | refine .inl ⟨_, _, ⟨c3, rfl, csq⟩, hK _ _ (nz ?_)⟩ | refine .inl ⟨_, _, ⟨c4, rfl, csq⟩, hK _ _ (nz ?_)⟩ | refine ⟨_, ⟨c1, rfl, rfl, csq⟩, hK _ (nz ?_)⟩ | refine ⟨_, ⟨c2, rfl, rfl, csq⟩, hK _ (nz ?_)⟩ | refine ⟨_, ⟨c3, rfl, rfl, csq⟩, hK _ (nz ?_)⟩ | refine ⟨_, ⟨c4, rfl, rfl, csq⟩, hK _ (nz ?_)⟩); clear hK KK) | (refine ⟨by first | exact eq_hop | exact eq_pol, hK _ _ ?_⟩; clear hK KK) | (refine ⟨by first | exact eq_hop | exact eq_pol, hK _ (nz ?_)⟩; clear hK KK) | ((repeat refine And.intro (by first | omega | (rw [getD_map_lt (by omega)]; rfl) | (simp; first | done | omega)) ?_); first | (refine hK _ _ ?_; clear hK KK) | (refine hK _ ?_; clear hK KK; try simp only [upd_mk]))) | ((with_reducible first | refine o_nil (hT _ _ ?_) | refine h_nil (hT _ ?_)); clear hT KT) | ((first | refine gd fun AA BB hA hB => ?_ | refine tc fun AA BB hA hB => ?_); first | (refine go ?_; (first | refine hA ?_ | refine hB ?_); clear hA hB AA BB) | (refine go2 ?_ ?_ <;> intro hb <;> (first | refine hA ?_ | refine hB ?_) <;> clear hA hB AA BB <;> (try simp only [hb, decide_true, decide_false]) <;> (try (exfalso; first | (simp at hb; done) | (simp at hb; omega))))) | (with_reducible refine skS ?_; simp only [upd_mk]) | with_reducible refine tdr fun KT hT => ?_ | with_reducible refine bY ?_)
         all_goals clear fx)
        refine k_rnd (k + 1) (imp_keep ?_ ?_ rfl) h (by omega)
        · simp [Keep, mk]
        · simp [KeepT, mkT]
      · obtain rfl : k = s.hops.length := by omega
        have e1 : decide ((s.hops.length : Int) < (s.hops.length : Int)) = false := by simp
        have c1 := well_i t s t1 t2 s1
        have c2 := fstInv_i t s t1 s1
        have c3 := validSeg_i t s t1 t2 s1
        have c4 := betaAt_i s 0 s1
        rw [hV.well] at c1
        rw [Vs_inv hV] at c2
        rw [Vs_valid hV] at c3
        rw [betaAt_zero] at c4
        (have fx := And.intro (@e1) (@beqI_self)
         repeat' (first | with_reducible refine go ?_ | with_reducible refine t_region fun KT hT => ?_ | (refine gp fun KK hK => ?_; first | (refine hK _ _ ?_; clear hK KK) | (refine hK _ ?_; clear hK KK; try simp only [upd_mk]) | ((with_reducible first | refine .inl ⟨_, _, ⟨c1, rfl, csq⟩, hK _ _ (nz ?_)⟩ | refine .inl ⟨_, _, ⟨c2, rfl, csq⟩, hK _ _ (nz ?_)⟩ | refine .inl ⟨_, _, ⟨c3, rfl, csq⟩, hK _ _ (nz ?_)⟩ | refine .inl ⟨_, _, ⟨c4, rfl, csq⟩, hK _ _ (nz ?_)⟩ | refine ⟨_, ⟨c1, rfl, rfl, csq⟩, hK _ (nz ?_)⟩ | refine ⟨_, ⟨c2, rfl, rfl, csq⟩, hK _ (nz ?_)⟩ | refine ⟨_, ⟨c3, rfl, rfl, csq⟩, hK _ (nz ?_)⟩ | refine ⟨_, ⟨c4, rfl, rfl, csq⟩, hK _ (nz ?_)⟩); clear hK KK) | (refine ⟨by first | exact eq_hop | exact eq_pol, hK _ _ ?_⟩; clear hK KK) | (refine ⟨by first | exact eq_hop | exact eq_pol, hK _ (nz ?_)⟩; clear hK KK) | ((repeat refine And.intro (by first | omega | (rw [getD_map_lt (by omega)]; rfl) | (simp; first | done | omega)) ?_); first | (refine hK _ _ ?_; clear hK KK) | (refine hK _ ?_; clear hK KK; try simp only [upd_mk]))) | ((with_reducible first | refine o_nil (hT _ _ ?_) | refine h_nil (hT _ ?_)); clear hT KT) | ((first | refine gd fun AA BB hA hB => ?_ | refine tc fun AA BB hA hB => ?_); first | (refine go ?_; (first | refine hA ?_ | refine hB ?_); clear hA hB AA BB) | (refine go2 ?_ ?_ <;> intro hb <;> (first | refine hA ?_ | refine hB ?_) <;> clear hA hB AA BB <;> (try simp only [hb, decide_true, decide_false]) <;> (try (exfalso; first | (simp at hb; done) | (simp at hb; omega))))) | (with_reducible refine skS ?_; simp only [upd_mk]) | with_reducible refine tdr fun KT hT => ?_ | with_reducible refine bY ?_)
         all_goals clear fx)
        (refine fe ?_; try exact trivial)
  · have cb := big_ok b
    have e0 : decide ((1048576 : Int) < (b.length : Int)) = true := decide_eq_true (by omega)
    rw [e0] at cb
    refine acall_mk Try.func9 rfl Try.ntmps9 Try.results9 (by kernel_rfl) (by simp) ?_
    simp only [args, Nat.zero_add, Nat.reduceAdd]
    repeat' (first | with_reducible refine go ?_ | with_reducible refine t_region fun KT hT => ?_ | (refine gp fun KK hK => ?_; first | (refine hK _ _ ?_; clear hK KK) | (refine hK _ ?_; clear hK KK; try simp only [upd_mk]) | ((with_reducible first | refine .inl ⟨_, _, ⟨cb, rfl, csq⟩, hK _ _ (nz ?_)⟩ | refine ⟨_, ⟨cb, rfl, rfl, csq⟩, hK _ (nz ?_)⟩); clear hK KK) | (refine ⟨by first | exact eq_hop | exact eq_pol, hK _ _ ?_⟩; clear hK KK) | (refine ⟨by first | exact eq_hop | exact eq_pol, hK _ (nz ?_)⟩; clear hK KK) | ((repeat refine And.intro (by first | omega | (rw [getD_map_lt (by omega)]; rfl) | (simp; first | done | omega)) ?_); first | (refine hK _ _ ?_; clear hK KK) | (refine hK _ ?_; clear hK KK; try simp only [upd_mk]))) | ((with_reducible first | refine o_nil (hT _ _ ?_) | refine h_nil (hT _ ?_)); clear hT KT) | ((first | refine gd fun AA BB hA hB => ?_ | refine tc fun AA BB hA hB => ?_); first | (refine go ?_; (first | refine hA ?_ | refine hB ?_); clear hA hB AA BB) | (refine go2 ?_ ?_ <;> intro hb <;> (first | refine hA ?_ | refine hB ?_) <;> clear hA hB AA BB <;> (try simp only [hb, decide_true, decide_false]) <;> (try (exfalso; first | (simp at hb; done) | (simp at hb; omega))))) | (with_reducible refine skS ?_; simp only [upd_mk]) | with_reducible refine tdr fun KT hT => ?_ | with_reducible refine bY ?_)
    (refine fe ?_; try exact trivial)

end Go.Proofs.Ytmiclkgkfkcnoaa
