/- The walk of the law FnBegins. -/
import Derived.Test.YtbinljboomkkdaaRows
import Derived.WalkKit
import Derived.ProofKit
import Derived.OpenShut
import Derived.ShutString
import Derived.ChangeOld
import Derived.Below
import Derived.Test.YtbinljboomkkdaaLu1
import Derived.Test.YtbinljboomkkdaaLzc1
import Derived.Test.YtbinljboomkkdaaLzd1
namespace Go.Proofs.Ytbinljboomkkdaa
open Go.ChangeShapes Go.WideShapes Go.ChangeAt Go.RowKit
open Go.ChangeMaps (open_string shut_string)
set_option linter.unusedVariables false
set_option linter.unusedSimpArgs false
set_option maxRecDepth 100000
set_option linter.defProp false
set_option synthInstance.maxHeartbeats 2000000
namespace GWFnBegins
def gx := And.intro (@hopRow.eq_1) (And.intro (@polRow.eq_1) (And.intro (@segRow.eq_1) (And.intro (@intRow.eq_1) (And.intro (@rowLen_ints) (And.intro (@rowLen_nil) (And.intro (@rowLen_cons) (And.intro (@rowLen_append) (And.intro (@lenL_app) (And.intro (@byteRow.eq_1) (And.intro (@rowLen_bytes) (And.intro (@bytesOf_map) (And.intro (@bytesOf_cons) (And.intro (@bytesOf_one) (And.intro (@rowLen_strs) (And.intro (@asRow.eq_1) (And.intro (@lkRow.eq_1) (And.intro (@tpRow.eq_1) (And.intro (@rowLen_hops) (And.intro (@rowLen_ases) (And.intro (@rowLen_links) (And.intro (@bcRow.eq_1) (And.intro (@rowLen_bcs) (@u8Row.eq_1)))))))))))))))))))))))
end GWFnBegins
open GWFnBegins

set_option maxHeartbeats 8000000 in
theorem fnBegins_law {x0 : D} (i0 : IsC (.slice [.int .u8]) x0) : ACall Try.prog 12 [x0] (.bool true) [] := by
  
  obtain ⟨b, rfl, hm⟩ := isBytes i0
  by_cases hl : b.length ≤ 1048576
  · have e0 : decide ((1048576 : Int) < (b.length : Int)) = false := decide_eq_false (by omega)
    have cb := big_ok b
    rw [e0] at cb
    refine acall_mk Try.func12 rfl Try.ntmps12 Try.results12 (by kernel_rfl) (by simp) ?_
    simp only [args, Nat.zero_add, Nat.reduceAdd]
    repeat' (first | with_reducible refine go ?_ | with_reducible refine t_region fun KT hT => ?_ | (refine gp fun KK hK => ?_; first | (refine hK _ _ ?_; clear hK KK) | (refine hK _ ?_; clear hK KK; try simp only [upd_mk]) | ((with_reducible first | refine .inl ⟨_, _, ⟨cb, rfl, csq⟩, hK _ _ (nz ?_)⟩ | refine ⟨_, ⟨cb, rfl, rfl, csq⟩, hK _ (nz ?_)⟩); clear hK KK) | (refine ⟨by first | exact eq_hop, hK _ _ ?_⟩; clear hK KK) | (refine ⟨by first | exact eq_hop, hK _ (nz ?_)⟩; clear hK KK) | ((repeat refine And.intro (by first | omega | (rw [getD_map_lt (by omega)]; rfl) | (simp; first | done | omega)) ?_); first | (refine hK _ _ ?_; clear hK KK) | (refine hK _ ?_; clear hK KK; try simp only [upd_mk]))) | ((with_reducible first | refine o_nil (hT _ _ ?_) | refine h_nil (hT _ ?_)); clear hT KT) | ((first | refine gd fun AA BB hA hB => ?_ | refine tc fun AA BB hA hB => ?_); first | (refine go ?_; (first | refine hA ?_ | refine hB ?_); clear hA hB AA BB) | (refine go2 ?_ ?_ <;> intro hb <;> (first | refine hA ?_ | refine hB ?_) <;> clear hA hB AA BB <;> (try simp only [hb, decide_true, decide_false]) <;> (try (exfalso; first | (simp at hb; done) | (simp at hb; omega))))) | (with_reducible refine skS ?_; simp only [upd_mk]) | with_reducible refine tdr fun KT hT => ?_ | with_reducible refine bY ?_)
    (refine gp fun KK hK => ?_; refine .inr (.inr (eQ [] (drawOr_e b hl) (fun x1 hx1 => hK _ _ ?_))); refine nze ?_; clear hK KK)
    obtain ⟨t, p, r, out, ts, be⟩ := x1
    obtain ⟨ht, sp⟩ := hx1
    simp only at ht sp
    have t1 : t.ases.length ≤ 1048576 := by have := ht.n8; omega
    have t2 : t.links.length ≤ 1048576 := by have := ht.ln; omega
    have ci := origC_i t p r out ts be t1 t2
    have co := origC_s t p r out ts be t1 t2
    repeat' (first | with_reducible refine go ?_ | with_reducible refine t_region fun KT hT => ?_ | (refine gp fun KK hK => ?_; first | (refine hK _ _ ?_; clear hK KK) | (refine hK _ ?_; clear hK KK; try simp only [upd_mk]) | ((with_reducible first | refine .inl ⟨_, _, ⟨ci, rfl, csq⟩, hK _ _ (nz ?_)⟩ | refine .inl ⟨_, _, ⟨co, rfl, csq⟩, hK _ _ (nz ?_)⟩ | refine ⟨_, ⟨ci, rfl, rfl, csq⟩, hK _ (nz ?_)⟩ | refine ⟨_, ⟨co, rfl, rfl, csq⟩, hK _ (nz ?_)⟩); clear hK KK) | (refine ⟨by first | exact eq_hop, hK _ _ ?_⟩; clear hK KK) | (refine ⟨by first | exact eq_hop, hK _ (nz ?_)⟩; clear hK KK) | ((repeat refine And.intro (by first | omega | (rw [getD_map_lt (by omega)]; rfl) | (simp; first | done | omega)) ?_); first | (refine hK _ _ ?_; clear hK KK) | (refine hK _ ?_; clear hK KK; try simp only [upd_mk]))) | ((with_reducible first | refine o_nil (hT _ _ ?_) | refine h_nil (hT _ ?_)); clear hT KT) | ((first | refine gd fun AA BB hA hB => ?_ | refine tc fun AA BB hA hB => ?_); first | (refine go ?_; (first | refine hA ?_ | refine hB ?_); clear hA hB AA BB) | (refine go2 ?_ ?_ <;> intro hb <;> (first | refine hA ?_ | refine hB ?_) <;> clear hA hB AA BB <;> (try simp only [hb, decide_true, decide_false]) <;> (try (exfalso; first | (simp at hb; done) | (simp at hb; omega))))) | (with_reducible refine skS ?_; simp only [upd_mk]) | with_reducible refine tdr fun KT hT => ?_ | with_reducible refine bY ?_)
    (refine gp fun KK hK => ?_; refine .inr (.inr (eQ [] (drawOI_e b hl) (fun x2 hx2 => hK _ _ ?_))); refine nze ?_; clear hK KK)
    obtain ⟨u, w, k⟩ := x2
    obtain ⟨su, sw⟩ := hx2
    simp only at su sw
    have u1 : u.ases.length ≤ 1048576 := by have := su.n8; omega
    have u2 : u.links.length ≤ 1048576 := by have := su.ln; omega
    have c1 := (origIfs_i u w k u1 u2).ro
    have c2 := (origIfs_s u w k u1 u2).ro
    simp only [view, viewL, tabOf, List.getElem?_cons_zero, List.getElem?_cons_succ, Option.map_some] at c1 c2
    have hg := origIfs_len u w k 6
    have hmem : ∀ x ∈ origIfs u w k 6, origOk u w k x 0 0 = true := fun x hx => origIfs_mem hx
    have cs1 := sameInts_ok (origIfs u w k 6) (origIfs u w k 6) (by omega)
    generalize origIfs u w k 6 = l at *
    have lS : (origSeg t p r out ts be).hops.length ≤ 1 := by
      unfold origSeg; split <;> simp [grownS]
    have cs2 := sameSeg_l (origSeg t p r out ts be) (origSeg t p r out ts be) (by omega)
    simp only [decide_true] at cs1 cs2
    generalize hS : origSeg t p r out ts be = s at *
    generalize hO : origOk t p r out ts be = ok at *
    (have fx := (@bnB)
     repeat' (first | with_reducible refine go ?_ | with_reducible refine t_region fun KT hT => ?_ | (refine gp fun KK hK => ?_; first | (refine hK _ _ ?_; clear hK KK) | (refine hK _ ?_; clear hK KK; try simp only [upd_mk]) | ((with_reducible first | refine .inl ⟨_, _, ⟨c1, rfl, csq⟩, hK _ _ (nz ?_)⟩ | refine .inl ⟨_, _, ⟨c2, rfl, csq⟩, hK _ _ (nz ?_)⟩ | refine .inl ⟨_, _, ⟨cs1, rfl, csq⟩, hK _ _ (nz ?_)⟩ | refine .inl ⟨_, _, ⟨cs2, rfl, csq⟩, hK _ _ (nz ?_)⟩ | refine ⟨_, ⟨c1, rfl, rfl, csq⟩, hK _ (nz ?_)⟩ | refine ⟨_, ⟨c2, rfl, rfl, csq⟩, hK _ (nz ?_)⟩ | refine ⟨_, ⟨cs1, rfl, rfl, csq⟩, hK _ (nz ?_)⟩ | refine ⟨_, ⟨cs2, rfl, rfl, csq⟩, hK _ (nz ?_)⟩); clear hK KK) | (refine ⟨by first | exact eq_hop, hK _ _ ?_⟩; clear hK KK) | (refine ⟨by first | exact eq_hop, hK _ (nz ?_)⟩; clear hK KK) | ((repeat refine And.intro (by first | omega | (rw [getD_map_lt (by omega)]; rfl) | (simp; first | done | omega)) ?_); first | (refine hK _ _ ?_; clear hK KK) | (refine hK _ ?_; clear hK KK; try simp only [upd_mk]))) | ((with_reducible first | refine o_nil (hT _ _ ?_) | refine h_nil (hT _ ?_)); clear hT KT) | ((first | refine gd fun AA BB hA hB => ?_ | refine tc fun AA BB hA hB => ?_); first | (refine go ?_; (first | refine hA ?_ | refine hB ?_); clear hA hB AA BB) | (refine go2 ?_ ?_ <;> intro hb <;> (first | refine hA ?_ | refine hB ?_) <;> clear hA hB AA BB <;> (try simp only [hb, decide_true, decide_false]) <;> (try (exfalso; first | (simp at hb; done) | (simp at hb; omega))))) | (with_reducible refine skS ?_; simp only [upd_mk]) | with_reducible refine tdr fun KT hT => ?_ | with_reducible refine bY ?_)
     all_goals clear fx)
    refine t_loop (fun i : Nat => [(3, .ptr 3 0 0), (4, .ptr 4 0 0), (5, .int .i64 r), (7, .int .i64 ts), (9, .ptr 9 0 0), (10, .bool ok), (13, .ptr 13 0 0), (14, .ptr 14 0 0), (15, .int .i64 k), (16, .sl (l.map intRow)), (17, .int .i64 (i : Int))]) (fun _ => [(14, .box (polRow w)), (13, .box (tpRow u)), (11, .box (segRow s)), (9, .box (segRow s)), (4, .box (polRow p)), (3, .box (tpRow t))]) (fun i => i ≤ l.length) (fun i => l.length - i) 0 (imp_keep (by simp [Keep, mk]) (by simp [KeepT, mkT]) rfl) (Nat.zero_le _) ?_
    clear cs1 cs2 c1 c2 ci co
    intro i hi
    rcases Nat.lt_or_ge i l.length with h | h
    · have e1 : decide ((i : Int) < (l.length : Int)) = true := decide_eq_true (by omega)
      have e2 := getD_map_lt (f := intRow) h
      obtain ⟨o1, o2, o3, o4, o5, o6⟩ := orig_parts (hmem _ (List.getElem_mem h))
      have o7 := (allows_clo o4).1
      have o8 := coreF_realm o1
      have hlt := realm_lt o8
      have e3 := getD_map_lt (f := asRow) hlt.2
      have e4 : (u.ases[k.toNat]'hlt.2).core = true := by rw [← o1, coreF, dif_pos o8]
      simp only [asRow] at e3
      simp only [intRow] at e2
      generalize l[i] = x at *
      have ck := ifKind_i u k x u2
      have cc := cont_i w.clo x
      rw [o7] at cc
      have wi := wrapS (show i < 4611686018427387904 by omega)
      rcases o3 with o3 | o3
      all_goals rw [o3] at ck
      all_goals (have fx := And.intro (@e1) (And.intro (@e2) (And.intro (@e3) (And.intro (@e4) (And.intro (@hlt) (And.intro (@h) (@wi))))))
                 repeat' (first | with_reducible refine go ?_ | with_reducible refine t_region fun KT hT => ?_ | (refine gp fun KK hK => ?_; first | (refine hK _ _ ?_; clear hK KK) | (refine hK _ ?_; clear hK KK; try simp only [upd_mk]) | ((with_reducible first | refine .inl ⟨_, _, ⟨ck, rfl, csq⟩, hK _ _ (nz ?_)⟩ | refine .inl ⟨_, _, ⟨cc, rfl, csq⟩, hK _ _ (nz ?_)⟩ | refine ⟨_, ⟨ck, rfl, rfl, csq⟩, hK _ (nz ?_)⟩ | refine ⟨_, ⟨cc, rfl, rfl, csq⟩, hK _ (nz ?_)⟩); clear hK KK) | (refine ⟨by first | exact eq_hop, hK _ _ ?_⟩; clear hK KK) | (refine ⟨by first | exact eq_hop, hK _ (nz ?_)⟩; clear hK KK) | ((repeat refine And.intro (by first | omega | (rw [getD_map_lt (by omega)]; rfl) | (simp; first | done | omega)) ?_); first | (refine hK _ _ ?_; clear hK KK) | (refine hK _ ?_; clear hK KK; try simp only [upd_mk]))) | ((with_reducible first | refine o_nil (hT _ _ ?_) | refine h_nil (hT _ ?_)); clear hT KT) | ((first | refine gd fun AA BB hA hB => ?_ | refine tc fun AA BB hA hB => ?_); first | (refine go ?_; (first | refine hA ?_ | refine hB ?_); clear hA hB AA BB) | (refine go2 ?_ ?_ <;> intro hb <;> (first | refine hA ?_ | refine hB ?_) <;> clear hA hB AA BB <;> (try simp only [hb, decide_true, decide_false]) <;> (try (exfalso; first | (simp at hb; done) | (simp at hb; omega))))) | (with_reducible refine skS ?_; simp only [upd_mk]) | with_reducible refine tdr fun KT hT => ?_ | with_reducible refine bY ?_)
                 all_goals clear fx)
      all_goals refine k_rnd (i + 1) (imp_keep ?_ ?_ rfl) h (by omega)
      all_goals first | (simp [Keep, mk]; done) | (simp [KeepT, mkT]; done)
    · have e1 : decide ((i : Int) < (l.length : Int)) = false := decide_eq_false (by omega)
      cases ok with
      | false =>
        have es : s = ⟨0, 0, []⟩ := by rw [← hS, origSeg, if_neg (by simp [hO])]
        subst es
        (have fx := (@e1)
         repeat' (first | with_reducible refine go ?_ | with_reducible refine t_region fun KT hT => ?_ | (refine gp fun KK hK => ?_; first | (refine hK _ _ ?_; clear hK KK) | (refine hK _ ?_; clear hK KK; try simp only [upd_mk]) | (refine ⟨by first | exact eq_hop, hK _ _ ?_⟩; clear hK KK) | (refine ⟨by first | exact eq_hop, hK _ (nz ?_)⟩; clear hK KK) | ((repeat refine And.intro (by first | omega | (rw [getD_map_lt (by omega)]; rfl) | (simp; first | done | omega)) ?_); first | (refine hK _ _ ?_; clear hK KK) | (refine hK _ ?_; clear hK KK; try simp only [upd_mk]))) | ((with_reducible first | refine o_nil (hT _ _ ?_) | refine h_nil (hT _ ?_)); clear hT KT) | ((first | refine gd fun AA BB hA hB => ?_ | refine tc fun AA BB hA hB => ?_); first | (refine go ?_; (first | refine hA ?_ | refine hB ?_); clear hA hB AA BB) | (refine go2 ?_ ?_ <;> intro hb <;> (first | refine hA ?_ | refine hB ?_) <;> clear hA hB AA BB <;> (try simp only [hb, decide_true, decide_false]) <;> (try (exfalso; first | (simp at hb; done) | (simp at hb; omega))))) | (with_reducible refine skS ?_; simp only [upd_mk]) | with_reducible refine tdr fun KT hT => ?_ | with_reducible refine bY ?_)
         all_goals clear fx)
        all_goals (refine fe ?_; try exact trivial)
      | true =>
        have hw := orig_valid ht.n8 (by have := sp.2; omega) hO
        obtain ⟨o1, o2, o3, o4, o5, o6⟩ := orig_parts hO
        have es : s = ⟨ts, be, [newHop t p ⟨ts, be, []⟩ r 0 out]⟩ := by rw [← hS, origSeg, if_pos hO]; rfl
        have ea : (newHop t p ⟨ts, be, []⟩ r 0 out).asn = r := rfl
        have eo : (newHop t p ⟨ts, be, []⟩ r 0 out).eg = out := rfl
        have ex : (newHop t p ⟨ts, be, []⟩ r 0 out).ex = expF p ts := rfl
        have hw' : validSeg t ⟨ts, be, [newHop t p ⟨ts, be, []⟩ r 0 out]⟩ = true := hw
        generalize newHop t p ⟨ts, be, []⟩ r 0 out = n at *
        clear hw
        subst es
        have cv := validSeg_i t ⟨ts, be, [n]⟩ t1 t2 (by simp)
        have cf := firstAS_i ⟨ts, be, [n]⟩
        have ct := isTerm_i ⟨ts, be, [n]⟩ (by simp)
        have e5 : firstAS ⟨ts, be, [n]⟩ = r := ea
        have e6 : isTerm ⟨ts, be, [n]⟩ = false := by simp [isTerm, eo]; omega
        rw [hw'] at cv
        rw [e5] at cf
        rw [e6] at ct
        have o8 := coreF_realm o1
        have hlt := realm_lt o8
        have e3 := getD_map_lt (f := asRow) hlt.2
        have e4 : (t.ases[r.toNat]'hlt.2).core = true := by rw [← o1, coreF, dif_pos o8]
        simp only [asRow] at e3
        simp only [segRow, List.map_cons, List.map_nil, hopRow, ex] at cv cf ct
        (have fx := And.intro (@e1) (And.intro (@e3) (And.intro (@e4) (And.intro (@hlt) (And.intro (@ex) (@beqI_self)))))
         repeat' (first | with_reducible refine go ?_ | with_reducible refine t_region fun KT hT => ?_ | (refine gp fun KK hK => ?_; first | (refine hK _ _ ?_; clear hK KK) | (refine hK _ ?_; clear hK KK; try simp only [upd_mk]) | ((with_reducible first | refine .inl ⟨_, _, ⟨cv, rfl, csq⟩, hK _ _ (nz ?_)⟩ | refine .inl ⟨_, _, ⟨cf, rfl, csq⟩, hK _ _ (nz ?_)⟩ | refine .inl ⟨_, _, ⟨ct, rfl, csq⟩, hK _ _ (nz ?_)⟩ | refine .inl ⟨_, _, ⟨expF_i p ts, rfl, csq⟩, hK _ _ (nz ?_)⟩ | refine ⟨_, ⟨cv, rfl, rfl, csq⟩, hK _ (nz ?_)⟩ | refine ⟨_, ⟨cf, rfl, rfl, csq⟩, hK _ (nz ?_)⟩ | refine ⟨_, ⟨ct, rfl, rfl, csq⟩, hK _ (nz ?_)⟩ | refine ⟨_, ⟨expF_i p ts, rfl, rfl, csq⟩, hK _ (nz ?_)⟩); clear hK KK) | (refine ⟨by first | exact eq_hop, hK _ _ ?_⟩; clear hK KK) | (refine ⟨by first | exact eq_hop, hK _ (nz ?_)⟩; clear hK KK) | ((repeat refine And.intro (by first | omega | (rw [getD_map_lt (by omega)]; rfl) | (simp; first | done | omega)) ?_); first | (refine hK _ _ ?_; clear hK KK) | (refine hK _ ?_; clear hK KK; try simp only [upd_mk]))) | ((with_reducible first | refine o_nil (hT _ _ ?_) | refine h_nil (hT _ ?_)); clear hT KT) | ((first | refine gd fun AA BB hA hB => ?_ | refine tc fun AA BB hA hB => ?_); first | (refine go ?_; (first | refine hA ?_ | refine hB ?_); clear hA hB AA BB) | (refine go2 ?_ ?_ <;> intro hb <;> (first | refine hA ?_ | refine hB ?_) <;> clear hA hB AA BB <;> (try simp only [hb, decide_true, decide_false]) <;> (try (exfalso; first | (simp at hb; done) | (simp at hb; omega))))) | (with_reducible refine skS ?_; simp only [upd_mk]) | with_reducible refine tdr fun KT hT => ?_ | with_reducible refine bY ?_)
         all_goals clear fx)
        all_goals (refine fe ?_; try exact trivial)
  · have cb := big_ok b
    have e0 : decide ((1048576 : Int) < (b.length : Int)) = true := decide_eq_true (by omega)
    rw [e0] at cb
    refine acall_mk Try.func12 rfl Try.ntmps12 Try.results12 (by kernel_rfl) (by simp) ?_
    simp only [args, Nat.zero_add, Nat.reduceAdd]
    repeat' (first | with_reducible refine go ?_ | with_reducible refine t_region fun KT hT => ?_ | (refine gp fun KK hK => ?_; first | (refine hK _ _ ?_; clear hK KK) | (refine hK _ ?_; clear hK KK; try simp only [upd_mk]) | ((with_reducible first | refine .inl ⟨_, _, ⟨cb, rfl, csq⟩, hK _ _ (nz ?_)⟩ | refine ⟨_, ⟨cb, rfl, rfl, csq⟩, hK _ (nz ?_)⟩); clear hK KK) | (refine ⟨by first | exact eq_hop, hK _ _ ?_⟩; clear hK KK) | (refine ⟨by first | exact eq_hop, hK _ (nz ?_)⟩; clear hK KK) | ((repeat refine And.intro (by first | omega | (rw [getD_map_lt (by omega)]; rfl) | (simp; first | done | omega)) ?_); first | (refine hK _ _ ?_; clear hK KK) | (refine hK _ ?_; clear hK KK; try simp only [upd_mk]))) | ((with_reducible first | refine o_nil (hT _ _ ?_) | refine h_nil (hT _ ?_)); clear hT KT) | ((first | refine gd fun AA BB hA hB => ?_ | refine tc fun AA BB hA hB => ?_); first | (refine go ?_; (first | refine hA ?_ | refine hB ?_); clear hA hB AA BB) | (refine go2 ?_ ?_ <;> intro hb <;> (first | refine hA ?_ | refine hB ?_) <;> clear hA hB AA BB <;> (try simp only [hb, decide_true, decide_false]) <;> (try (exfalso; first | (simp at hb; done) | (simp at hb; omega))))) | (with_reducible refine skS ?_; simp only [upd_mk]) | with_reducible refine tdr fun KT hT => ?_ | with_reducible refine bY ?_)
    (refine fe ?_; try exact trivial)

end Go.Proofs.Ytbinljboomkkdaa
