/- The walk of the law FnShapes. -/
import Derived.Test.YtbinljboomkkdaaRows
import Derived.WalkKit
import Derived.ProofKit
import Derived.OpenShut
import Derived.ShutString
import Derived.ChangeOld
import Derived.Below
import Derived.Test.YtbinljboomkkdaaLzc1
import Derived.Test.YtbinljboomkkdaaLzd1
import Derived.Test.YtbinljboomkkdaaLze1
import Derived.Test.YtbinljboomkkdaaLze2
namespace Go.Proofs.Ytbinljboomkkdaa
open Go.ChangeShapes Go.WideShapes Go.ChangeAt Go.RowKit
open Go.ChangeMaps (open_string shut_string)
set_option linter.unusedVariables false
set_option linter.unusedSimpArgs false
set_option maxRecDepth 100000
set_option linter.defProp false
set_option synthInstance.maxHeartbeats 2000000
namespace GWFnShapes
def gx := And.intro (@hopRow.eq_1) (And.intro (@polRow.eq_1) (And.intro (@segRow.eq_1) (And.intro (@intRow.eq_1) (And.intro (@rowLen_ints) (And.intro (@rowLen_nil) (And.intro (@rowLen_cons) (And.intro (@rowLen_append) (And.intro (@lenL_app) (And.intro (@byteRow.eq_1) (And.intro (@rowLen_bytes) (And.intro (@bytesOf_map) (And.intro (@bytesOf_cons) (And.intro (@bytesOf_one) (And.intro (@rowLen_strs) (And.intro (@asRow.eq_1) (And.intro (@lkRow.eq_1) (And.intro (@tpRow.eq_1) (And.intro (@rowLen_hops) (And.intro (@rowLen_ases) (And.intro (@rowLen_links) (And.intro (@bcRow.eq_1) (And.intro (@rowLen_bcs) (@u8Row.eq_1)))))))))))))))))))))))
end GWFnShapes
open GWFnShapes

set_option maxHeartbeats 8000000 in
theorem fnShapes_law {x0 : D} (i0 : IsC (.slice [.int .u8]) x0) : ACall Try.prog 11 [x0] (.bool true) [] := by
  
  obtain ⟨b, rfl, hm⟩ := isBytes i0
  by_cases hl : b.length ≤ 1048576
  · have e0 : decide ((1048576 : Int) < (b.length : Int)) = false := decide_eq_false (by omega)
    have cb := big_ok b
    rw [e0] at cb
    refine acall_mk Try.func11 rfl Try.ntmps11 Try.results11 (by kernel_rfl) (by simp) ?_
    simp only [args, Nat.zero_add, Nat.reduceAdd]
    repeat' (first | with_reducible refine go ?_ | with_reducible refine t_region fun KT hT => ?_ | (refine gp fun KK hK => ?_; first | (refine hK _ _ ?_; clear hK KK) | (refine hK _ ?_; clear hK KK; try simp only [upd_mk]) | ((with_reducible first | refine .inl ⟨_, _, ⟨cb, rfl, csq⟩, hK _ _ (nz ?_)⟩ | refine ⟨_, ⟨cb, rfl, rfl, csq⟩, hK _ (nz ?_)⟩); clear hK KK) | (refine ⟨by first | exact eq_hop, hK _ _ ?_⟩; clear hK KK) | (refine ⟨by first | exact eq_hop, hK _ (nz ?_)⟩; clear hK KK) | ((repeat refine And.intro (by first | omega | (rw [getD_map_lt (by omega)]; rfl) | (simp; first | done | omega)) ?_); first | (refine hK _ _ ?_; clear hK KK) | (refine hK _ ?_; clear hK KK; try simp only [upd_mk]))) | ((with_reducible first | refine o_nil (hT _ _ ?_) | refine h_nil (hT _ ?_)); clear hT KT) | ((first | refine gd fun AA BB hA hB => ?_ | refine tc fun AA BB hA hB => ?_); first | (refine go ?_; (first | refine hA ?_ | refine hB ?_); clear hA hB AA BB) | (refine go2 ?_ ?_ <;> intro hb <;> (first | refine hA ?_ | refine hB ?_) <;> clear hA hB AA BB <;> (try simp only [hb, decide_true, decide_false]) <;> (try (exfalso; first | (simp at hb; done) | (simp at hb; omega))))) | (with_reducible refine skS ?_; simp only [upd_mk]) | with_reducible refine tdr fun KT hT => ?_ | with_reducible refine bY ?_)
    (refine gp fun KK hK => ?_; refine .inr (.inr (eQ [] (drawTp_e b hl) (fun t ht => hK _ _ ?_))); refine nze ?_; clear hK KK)
    repeat' (first | with_reducible refine go ?_ | with_reducible refine t_region fun KT hT => ?_ | (refine gp fun KK hK => ?_; first | (refine hK _ _ ?_; clear hK KK) | (refine hK _ ?_; clear hK KK; try simp only [upd_mk]) | (refine ⟨by first | exact eq_hop, hK _ _ ?_⟩; clear hK KK) | (refine ⟨by first | exact eq_hop, hK _ (nz ?_)⟩; clear hK KK) | ((repeat refine And.intro (by first | omega | (rw [getD_map_lt (by omega)]; rfl) | (simp; first | done | omega)) ?_); first | (refine hK _ _ ?_; clear hK KK) | (refine hK _ ?_; clear hK KK; try simp only [upd_mk]))) | ((with_reducible first | refine o_nil (hT _ _ ?_) | refine h_nil (hT _ ?_)); clear hT KT) | ((first | refine gd fun AA BB hA hB => ?_ | refine tc fun AA BB hA hB => ?_); first | (refine go ?_; (first | refine hA ?_ | refine hB ?_); clear hA hB AA BB) | (refine go2 ?_ ?_ <;> intro hb <;> (first | refine hA ?_ | refine hB ?_) <;> clear hA hB AA BB <;> (try simp only [hb, decide_true, decide_false]) <;> (try (exfalso; first | (simp at hb; done) | (simp at hb; omega))))) | (with_reducible refine skS ?_; simp only [upd_mk]) | with_reducible refine tdr fun KT hT => ?_ | with_reducible refine bY ?_)
    (refine gp fun KK hK => ?_; refine .inr (.inr (eQ [] (drawAn_e b hl) (fun x2 hx2 => hK _ _ ?_))); refine nze ?_; clear hK KK)
    obtain ⟨u, r⟩ := x2
    simp only at hx2
    have t2 : t.links.length ≤ 1048576 := by have := ht.ln; omega
    have u1 : u.ases.length ≤ 1048576 := by have := hx2.n8; omega
    have u2 : u.links.length ≤ 1048576 := by have := hx2.ln; omega
    have k1 := anc_i u r u2
    have k2 := anc_s u r u2
    have k3 := desc_i u r u2
    have k4 := desc_s u r u2
    have k5 := par_i u r u2
    have k6 := par_s u r u2
    have k7 := chi_i u r u2
    have k8 := chi_s u r u2
    have k9 := (rCores_i u r u1 u2).ro
    have k10 := rCores_s u r u1 u2
    have k11 := depth_i u r u2
    have k12 := depth_s u r u2
    have k13 := cComp_i u r hx2.n8 u2
    have k14 := cComp_s u r hx2.n8 u2
    simp only [view, viewL, tabOf, List.getElem?_cons_zero, List.getElem?_cons_succ, Option.map_some] at k9
    have s1 := sameInts_ok (nbrs u 3 r) (nbrs u 3 r) (by have := nbrs_len u 3 r; omega)
    have s2 := sameInts_ok (nbrs u 2 r) (nbrs u 2 r) (by have := nbrs_len u 2 r; omega)
    have s3 := sameInts_ok (rCores u r) (rCores u r) (by have := rCores_len u r; omega)
    simp only [decide_true] at s1 s2 s3
    generalize upTo u 3 [r] 10 = v1 at *
    generalize upTo u 2 [r] 10 = v2 at *
    generalize nbrs u 3 r = v3 at *
    generalize nbrs u 2 r = v4 at *
    generalize rCores u r = v5 at *
    generalize depth u r = v6 at *
    generalize cComp u r = v7 at *
    (have fx := (@bneI_self)
     repeat' (first | with_reducible refine go ?_ | with_reducible refine t_region fun KT hT => ?_ | (refine gp fun KK hK => ?_; first | (refine hK _ _ ?_; clear hK KK) | (refine hK _ ?_; clear hK KK; try simp only [upd_mk]) | ((with_reducible first | refine .inl ⟨_, _, ⟨k1, rfl, csq⟩, hK _ _ (nz ?_)⟩ | refine .inl ⟨_, _, ⟨k2, rfl, csq⟩, hK _ _ (nz ?_)⟩ | refine .inl ⟨_, _, ⟨k3, rfl, csq⟩, hK _ _ (nz ?_)⟩ | refine .inl ⟨_, _, ⟨k4, rfl, csq⟩, hK _ _ (nz ?_)⟩ | refine .inl ⟨_, _, ⟨k5, rfl, csq⟩, hK _ _ (nz ?_)⟩ | refine .inl ⟨_, _, ⟨k6, rfl, csq⟩, hK _ _ (nz ?_)⟩ | refine .inl ⟨_, _, ⟨k7, rfl, csq⟩, hK _ _ (nz ?_)⟩ | refine .inl ⟨_, _, ⟨k8, rfl, csq⟩, hK _ _ (nz ?_)⟩ | refine .inl ⟨_, _, ⟨k9, rfl, csq⟩, hK _ _ (nz ?_)⟩ | refine .inl ⟨_, _, ⟨k10, rfl, csq⟩, hK _ _ (nz ?_)⟩ | refine .inl ⟨_, _, ⟨k11, rfl, csq⟩, hK _ _ (nz ?_)⟩ | refine .inl ⟨_, _, ⟨k12, rfl, csq⟩, hK _ _ (nz ?_)⟩ | refine .inl ⟨_, _, ⟨k13, rfl, csq⟩, hK _ _ (nz ?_)⟩ | refine .inl ⟨_, _, ⟨k14, rfl, csq⟩, hK _ _ (nz ?_)⟩ | refine .inl ⟨_, _, ⟨s1, rfl, csq⟩, hK _ _ (nz ?_)⟩ | refine .inl ⟨_, _, ⟨s2, rfl, csq⟩, hK _ _ (nz ?_)⟩ | refine .inl ⟨_, _, ⟨s3, rfl, csq⟩, hK _ _ (nz ?_)⟩ | refine ⟨_, ⟨k1, rfl, rfl, csq⟩, hK _ (nz ?_)⟩ | refine ⟨_, ⟨k2, rfl, rfl, csq⟩, hK _ (nz ?_)⟩ | refine ⟨_, ⟨k3, rfl, rfl, csq⟩, hK _ (nz ?_)⟩ | refine ⟨_, ⟨k4, rfl, rfl, csq⟩, hK _ (nz ?_)⟩ | refine ⟨_, ⟨k5, rfl, rfl, csq⟩, hK _ (nz ?_)⟩ | refine ⟨_, ⟨k6, rfl, rfl, csq⟩, hK _ (nz ?_)⟩ | refine ⟨_, ⟨k7, rfl, rfl, csq⟩, hK _ (nz ?_)⟩ | refine ⟨_, ⟨k8, rfl, rfl, csq⟩, hK _ (nz ?_)⟩ | refine ⟨_, ⟨k9, rfl, rfl, csq⟩, hK _ (nz ?_)⟩ | refine ⟨_, ⟨k10, rfl, rfl, csq⟩, hK _ (nz ?_)⟩ | refine ⟨_, ⟨k11, rfl, rfl, csq⟩, hK _ (nz ?_)⟩ | refine ⟨_, ⟨k12, rfl, rfl, csq⟩, hK _ (nz ?_)⟩ | refine ⟨_, ⟨k13, rfl, rfl, csq⟩, hK _ (nz ?_)⟩ | refine ⟨_, ⟨k14, rfl, rfl, csq⟩, hK _ (nz ?_)⟩ | refine ⟨_, ⟨s1, rfl, rfl, csq⟩, hK _ (nz ?_)⟩ | refine ⟨_, ⟨s2, rfl, rfl, csq⟩, hK _ (nz ?_)⟩ | refine ⟨_, ⟨s3, rfl, rfl, csq⟩, hK _ (nz ?_)⟩); clear hK KK) | (refine ⟨by first | exact eq_hop, hK _ _ ?_⟩; clear hK KK) | (refine ⟨by first | exact eq_hop, hK _ (nz ?_)⟩; clear hK KK) | ((repeat refine And.intro (by first | omega | (rw [getD_map_lt (by omega)]; rfl) | (simp; first | done | omega)) ?_); first | (refine hK _ _ ?_; clear hK KK) | (refine hK _ ?_; clear hK KK; try simp only [upd_mk]))) | ((with_reducible first | refine o_nil (hT _ _ ?_) | refine h_nil (hT _ ?_)); clear hT KT) | ((first | refine gd fun AA BB hA hB => ?_ | refine tc fun AA BB hA hB => ?_); first | (refine go ?_; (first | refine hA ?_ | refine hB ?_); clear hA hB AA BB) | (refine go2 ?_ ?_ <;> intro hb <;> (first | refine hA ?_ | refine hB ?_) <;> clear hA hB AA BB <;> (try simp only [hb, decide_true, decide_false]) <;> (try (exfalso; first | (simp at hb; done) | (simp at hb; omega))))) | (with_reducible refine skS ?_; simp only [upd_mk]) | (refine tdr (id := 5) fun KT hT => ?_; simp only [List.append_eq, List.cons_append, List.nil_append]) | with_reducible refine tdr fun KT hT => ?_ | with_reducible refine bY ?_)
     all_goals clear fx)
    clear k1 k2 k3 k4 k5 k6 k7 k8 k9 k10 k11 k12 k13 k14 s1 s2 s3
    refine t_loop (fun i : Nat => [(3, .ptr 3 0 0), (6, .int .i64 (i : Int))]) (fun _ => [(4, .box (tpRow u)), (3, .box (tpRow t))]) (fun i => i ≤ t.ases.length) (fun i => t.ases.length - i) 0 (imp_keep (by simp [Keep, mk]) (by simp [KeepT, mkT]) rfl) (Nat.zero_le _) ?_
    intro i hi
    have hn8 := ht.n8
    rcases Nat.lt_or_ge i t.ases.length with h | h
    · have e1 : decide ((i : Int) < (t.ases.length : Int)) = true := decide_eq_true (by omega)
      have e2 := getD_map_lt (f := asRow) h
      have hok : ∀ x ∈ elems (upTo t 3 [(i : Int)] 10 : Nat), x < (i : Int) ∧ cont (upTo t 2 [x] 10 : Nat) (i : Int) = true ∧ realm t x = true ∧ isdF t x = isdF t i ∧ coreF t i = false := fun x hx => anc_ok ht hx
      have hd1 : depth t i ≤ (elems (upTo t 3 [(i : Int)] 10 : Nat)).length := depth_le ht i
      have hd2 : depth t i = 0 ↔ (elems (upTo t 3 [(i : Int)] 10 : Nat)).length = 0 := depth_zero ht i
      have ha16 := elems_len (upTo t 3 [(i : Int)] 10 : Nat)
      have ri : realm t (i : Int) = true := by simp [realm, inR]; omega
      have eI : isdF t (i : Int) = t.ases[i].isd := by simp only [isdF, dif_pos ri, Int.toNat_natCast]
      have eC : coreF t (i : Int) = t.ases[i].core := by simp only [coreF, dif_pos ri, Int.toNat_natCast]
      simp only [asRow] at e2
      have wi := wrapS (show i < 4611686018427387904 by omega)
      (have fx := (@e1)
       repeat' (first | with_reducible refine go ?_ | with_reducible refine t_region fun KT hT => ?_ | (refine gp fun KK hK => ?_; first | (refine hK _ _ ?_; clear hK KK) | (refine hK _ ?_; clear hK KK; try simp only [upd_mk]) | ((with_reducible first | refine .inl ⟨_, _, ⟨anc_i t i t2, rfl, csq⟩, hK _ _ (nz ?_)⟩ | refine .inl ⟨_, _, ⟨elems_i _, rfl, csq⟩, hK _ _ (nz ?_)⟩ | refine ⟨_, ⟨anc_i t i t2, rfl, rfl, csq⟩, hK _ (nz ?_)⟩ | refine ⟨_, ⟨elems_i _, rfl, rfl, csq⟩, hK _ (nz ?_)⟩); clear hK KK) | (refine ⟨by first | exact eq_hop, hK _ _ ?_⟩; clear hK KK) | (refine ⟨by first | exact eq_hop, hK _ (nz ?_)⟩; clear hK KK) | ((repeat refine And.intro (by first | omega | (rw [getD_map_lt (by omega)]; rfl) | (simp; first | done | omega)) ?_); first | (refine hK _ _ ?_; clear hK KK) | (refine hK _ ?_; clear hK KK; try simp only [upd_mk]))) | ((with_reducible first | refine o_nil (hT _ _ ?_) | refine h_nil (hT _ ?_)); clear hT KT) | ((first | refine gd fun AA BB hA hB => ?_ | refine tc fun AA BB hA hB => ?_); first | (refine go ?_; (first | refine hA ?_ | refine hB ?_); clear hA hB AA BB) | (refine go2 ?_ ?_ <;> intro hb <;> (first | refine hA ?_ | refine hB ?_) <;> clear hA hB AA BB <;> (try simp only [hb, decide_true, decide_false]) <;> (try (exfalso; first | (simp at hb; done) | (simp at hb; omega))))) | (with_reducible refine skS ?_; simp only [upd_mk]) | with_reducible refine tdr fun KT hT => ?_ | with_reducible refine bY ?_)
       all_goals clear fx)
      generalize elems (upTo t 3 [(i : Int)] 10 : Nat) = a at *
      refine t_loop (fun k : Nat => [(3, .ptr 3 0 0), (6, .int .i64 (i : Int)), (7, .sl (a.map intRow)), (8, .int .i64 (k : Int))]) (fun _ => [(4, .box (tpRow u)), (3, .box (tpRow t))]) (fun k => k ≤ a.length) (fun k => a.length - k) 0 (imp_keep (by simp [Keep, mk]) (by simp [KeepT, mkT]) rfl) (Nat.zero_le _) ?_
      intro k hk
      rcases Nat.lt_or_ge k a.length with h' | h'
      · have f1 : decide ((k : Int) < (a.length : Int)) = true := decide_eq_true (by omega)
        have f2 := getD_map_lt (f := intRow) h'
        obtain ⟨p1, p2, p3, p4, p5⟩ := hok _ (List.getElem_mem h')
        have hlt := realm_lt p3
        have f3 := getD_map_lt (f := asRow) hlt.2
        have eX : isdF t a[k] = (t.ases[(a[k]).toNat]'hlt.2).isd := by simp only [isdF, dif_pos p3]
        rw [eX, eI] at p4
        simp only [asRow, p4] at f3
        simp only [intRow] at f2
        have cd := desc_i t a[k] t2
        have cc := cont_i (upTo t 2 [a[k]] 10 : Nat) (i : Int)
        rw [p2] at cc
        have f4 : decide ((i : Int) ≤ a[k]) = false := decide_eq_false (by omega)
        have wk := wrapS (show k < 4611686018427387904 by omega)
        (have fx := And.intro (@f1) (And.intro (@f2) (And.intro (@f3) (And.intro (@f4) (And.intro (@e2) (And.intro (@h) (And.intro (@h') (And.intro (@hlt) (And.intro (@wk) (@bneI_self)))))))))
         repeat' (first | with_reducible refine go ?_ | with_reducible refine t_region fun KT hT => ?_ | (refine gp fun KK hK => ?_; first | (refine hK _ _ ?_; clear hK KK) | (refine hK _ ?_; clear hK KK; try simp only [upd_mk]) | ((with_reducible first | refine .inl ⟨_, _, ⟨cd, rfl, csq⟩, hK _ _ (nz ?_)⟩ | refine .inl ⟨_, _, ⟨cc, rfl, csq⟩, hK _ _ (nz ?_)⟩ | refine ⟨_, ⟨cd, rfl, rfl, csq⟩, hK _ (nz ?_)⟩ | refine ⟨_, ⟨cc, rfl, rfl, csq⟩, hK _ (nz ?_)⟩); clear hK KK) | (refine ⟨by first | exact eq_hop, hK _ _ ?_⟩; clear hK KK) | (refine ⟨by first | exact eq_hop, hK _ (nz ?_)⟩; clear hK KK) | ((repeat refine And.intro (by first | omega | (rw [getD_map_lt (by omega)]; rfl) | (simp; first | done | omega)) ?_); first | (refine hK _ _ ?_; clear hK KK) | (refine hK _ ?_; clear hK KK; try simp only [upd_mk]))) | ((with_reducible first | refine o_nil (hT _ _ ?_) | refine h_nil (hT _ ?_)); clear hT KT) | ((first | refine gd fun AA BB hA hB => ?_ | refine tc fun AA BB hA hB => ?_); first | (refine go ?_; (first | refine hA ?_ | refine hB ?_); clear hA hB AA BB) | (refine go2 ?_ ?_ <;> intro hb <;> (first | refine hA ?_ | refine hB ?_) <;> clear hA hB AA BB <;> (try simp only [hb, decide_true, decide_false]) <;> (try (exfalso; first | (simp at hb; done) | (simp at hb; omega))))) | (with_reducible refine skS ?_; simp only [upd_mk]) | with_reducible refine tdr fun KT hT => ?_ | with_reducible refine bY ?_)
         all_goals clear fx)
        refine k_rnd (k + 1) (imp_keep ?_ ?_ rfl) h' (by omega)
        · simp [Keep, mk]
        · simp [KeepT, mkT]
      · obtain rfl : k = a.length := by omega
        have f1 : decide ((a.length : Int) < (a.length : Int)) = false := by simp
        have g4 : decide ((a.length : Int) < (depth t i : Int)) = false := decide_eq_false (by omega)
        have cd := depth_i t i t2
        rcases Nat.eq_zero_or_pos a.length with q | q
        · have g1 : decide ((0 : Int) < (a.length : Int)) = false := decide_eq_false (by omega)
          have g2 : ((a.length : Int) == 0) = true := by simp [q]
          have g3 : ((depth t i : Int) == 0) = true := by simp [hd2.2 q]
          generalize depth t i = dd at *
          (have fx := And.intro (@f1) (And.intro (@g1) (And.intro (@g2) (And.intro (@g3) (And.intro (@g4) (And.intro (@e2) (And.intro (@h) (@wi)))))))
           repeat' (first | with_reducible refine go ?_ | with_reducible refine t_region fun KT hT => ?_ | (refine gp fun KK hK => ?_; first | (refine hK _ _ ?_; clear hK KK) | (refine hK _ ?_; clear hK KK; try simp only [upd_mk]) | ((with_reducible first | refine .inl ⟨_, _, ⟨cd, rfl, csq⟩, hK _ _ (nz ?_)⟩ | refine ⟨_, ⟨cd, rfl, rfl, csq⟩, hK _ (nz ?_)⟩); clear hK KK) | (refine ⟨by first | exact eq_hop, hK _ _ ?_⟩; clear hK KK) | (refine ⟨by first | exact eq_hop, hK _ (nz ?_)⟩; clear hK KK) | ((repeat refine And.intro (by first | omega | (rw [getD_map_lt (by omega)]; rfl) | (simp; first | done | omega)) ?_); first | (refine hK _ _ ?_; clear hK KK) | (refine hK _ ?_; clear hK KK; try simp only [upd_mk]))) | ((with_reducible first | refine o_nil (hT _ _ ?_) | refine h_nil (hT _ ?_)); clear hT KT) | ((first | refine gd fun AA BB hA hB => ?_ | refine tc fun AA BB hA hB => ?_); first | (refine go ?_; (first | refine hA ?_ | refine hB ?_); clear hA hB AA BB) | (refine go2 ?_ ?_ <;> intro hb <;> (first | refine hA ?_ | refine hB ?_) <;> clear hA hB AA BB <;> (try simp only [hb, decide_true, decide_false]) <;> (try (exfalso; first | (simp at hb; done) | (simp at hb; omega))))) | (with_reducible refine skS ?_; simp only [upd_mk]) | with_reducible refine tdr fun KT hT => ?_ | with_reducible refine bY ?_)
           all_goals clear fx)
          all_goals refine k_rnd (i + 1) (imp_keep ?_ ?_ rfl) h (by omega)
          all_goals first | (simp [Keep, mk]; done) | (simp [KeepT, mkT]; done)
        · have g1 : decide ((0 : Int) < (a.length : Int)) = true := decide_eq_true (by omega)
          have g2 : ((a.length : Int) == 0) = false := beq_eq_false_iff_ne.2 (by omega)
          have hne : depth t i ≠ 0 := fun e => by have := hd2.1 e; omega
          have g3 : ((depth t i : Int) == 0) = false := by simpa using hne
          have g5 : t.ases[i].core = false := by rw [← eC]; exact (hok _ (List.getElem_mem q)).2.2.2.2
          generalize depth t i = dd at *
          (have fx := And.intro (@f1) (And.intro (@g1) (And.intro (@g2) (And.intro (@g3) (And.intro (@g4) (And.intro (@g5) (And.intro (@e2) (And.intro (@h) (@wi))))))))
           repeat' (first | with_reducible refine go ?_ | with_reducible refine t_region fun KT hT => ?_ | (refine gp fun KK hK => ?_; first | (refine hK _ _ ?_; clear hK KK) | (refine hK _ ?_; clear hK KK; try simp only [upd_mk]) | ((with_reducible first | refine .inl ⟨_, _, ⟨cd, rfl, csq⟩, hK _ _ (nz ?_)⟩ | refine ⟨_, ⟨cd, rfl, rfl, csq⟩, hK _ (nz ?_)⟩); clear hK KK) | (refine ⟨by first | exact eq_hop, hK _ _ ?_⟩; clear hK KK) | (refine ⟨by first | exact eq_hop, hK _ (nz ?_)⟩; clear hK KK) | ((repeat refine And.intro (by first | omega | (rw [getD_map_lt (by omega)]; rfl) | (simp; first | done | omega)) ?_); first | (refine hK _ _ ?_; clear hK KK) | (refine hK _ ?_; clear hK KK; try simp only [upd_mk]))) | ((with_reducible first | refine o_nil (hT _ _ ?_) | refine h_nil (hT _ ?_)); clear hT KT) | ((first | refine gd fun AA BB hA hB => ?_ | refine tc fun AA BB hA hB => ?_); first | (refine go ?_; (first | refine hA ?_ | refine hB ?_); clear hA hB AA BB) | (refine go2 ?_ ?_ <;> intro hb <;> (first | refine hA ?_ | refine hB ?_) <;> clear hA hB AA BB <;> (try simp only [hb, decide_true, decide_false]) <;> (try (exfalso; first | (simp at hb; done) | (simp at hb; omega))))) | (with_reducible refine skS ?_; simp only [upd_mk]) | with_reducible refine tdr fun KT hT => ?_ | with_reducible refine bY ?_)
           all_goals clear fx)
          all_goals refine k_rnd (i + 1) (imp_keep ?_ ?_ rfl) h (by omega)
          all_goals first | (simp [Keep, mk]; done) | (simp [KeepT, mkT]; done)
    · obtain rfl : i = t.ases.length := by omega
      have e1 : decide ((t.ases.length : Int) < (t.ases.length : Int)) = false := by simp
      (have fx := (@e1)
       repeat' (first | with_reducible refine go ?_ | with_reducible refine t_region fun KT hT => ?_ | (refine gp fun KK hK => ?_; first | (refine hK _ _ ?_; clear hK KK) | (refine hK _ ?_; clear hK KK; try simp only [upd_mk]) | (refine ⟨by first | exact eq_hop, hK _ _ ?_⟩; clear hK KK) | (refine ⟨by first | exact eq_hop, hK _ (nz ?_)⟩; clear hK KK) | ((repeat refine And.intro (by first | omega | (rw [getD_map_lt (by omega)]; rfl) | (simp; first | done | omega)) ?_); first | (refine hK _ _ ?_; clear hK KK) | (refine hK _ ?_; clear hK KK; try simp only [upd_mk]))) | ((with_reducible first | refine o_nil (hT _ _ ?_) | refine h_nil (hT _ ?_)); clear hT KT) | ((first | refine gd fun AA BB hA hB => ?_ | refine tc fun AA BB hA hB => ?_); first | (refine go ?_; (first | refine hA ?_ | refine hB ?_); clear hA hB AA BB) | (refine go2 ?_ ?_ <;> intro hb <;> (first | refine hA ?_ | refine hB ?_) <;> clear hA hB AA BB <;> (try simp only [hb, decide_true, decide_false]) <;> (try (exfalso; first | (simp at hb; done) | (simp at hb; omega))))) | (with_reducible refine skS ?_; simp only [upd_mk]) | with_reducible refine tdr fun KT hT => ?_ | with_reducible refine bY ?_)
       all_goals clear fx)
      (refine fe ?_; try exact trivial)
  · have cb := big_ok b
    have e0 : decide ((1048576 : Int) < (b.length : Int)) = true := decide_eq_true (by omega)
    rw [e0] at cb
    refine acall_mk Try.func11 rfl Try.ntmps11 Try.results11 (by kernel_rfl) (by simp) ?_
    simp only [args, Nat.zero_add, Nat.reduceAdd]
    repeat' (first | with_reducible refine go ?_ | with_reducible refine t_region fun KT hT => ?_ | (refine gp fun KK hK => ?_; first | (refine hK _ _ ?_; clear hK KK) | (refine hK _ ?_; clear hK KK; try simp only [upd_mk]) | ((with_reducible first | refine .inl ⟨_, _, ⟨cb, rfl, csq⟩, hK _ _ (nz ?_)⟩ | refine ⟨_, ⟨cb, rfl, rfl, csq⟩, hK _ (nz ?_)⟩); clear hK KK) | (refine ⟨by first | exact eq_hop, hK _ _ ?_⟩; clear hK KK) | (refine ⟨by first | exact eq_hop, hK _ (nz ?_)⟩; clear hK KK) | ((repeat refine And.intro (by first | omega | (rw [getD_map_lt (by omega)]; rfl) | (simp; first | done | omega)) ?_); first | (refine hK _ _ ?_; clear hK KK) | (refine hK _ ?_; clear hK KK; try simp only [upd_mk]))) | ((with_reducible first | refine o_nil (hT _ _ ?_) | refine h_nil (hT _ ?_)); clear hT KT) | ((first | refine gd fun AA BB hA hB => ?_ | refine tc fun AA BB hA hB => ?_); first | (refine go ?_; (first | refine hA ?_ | refine hB ?_); clear hA hB AA BB) | (refine go2 ?_ ?_ <;> intro hb <;> (first | refine hA ?_ | refine hB ?_) <;> clear hA hB AA BB <;> (try simp only [hb, decide_true, decide_false]) <;> (try (exfalso; first | (simp at hb; done) | (simp at hb; omega))))) | (with_reducible refine skS ?_; simp only [upd_mk]) | with_reducible refine tdr fun KT hT => ?_ | with_reducible refine bY ?_)
    (refine fe ?_; try exact trivial)

end Go.Proofs.Ytbinljboomkkdaa
