/- The walk of the law FnHops. -/
import Derived.Test.YtbinljboomkkdaaRows
import Derived.WalkKit
import Derived.ProofKit
import Derived.OpenShut
import Derived.ShutString
import Derived.ChangeOld
import Derived.Below
import Derived.Test.YtbinljboomkkdaaLk1
import Derived.Test.YtbinljboomkkdaaLzc1
import Derived.Test.YtbinljboomkkdaaLzc2
namespace Go.Proofs.Ytbinljboomkkdaa
open Go.ChangeShapes Go.WideShapes Go.ChangeAt Go.RowKit
open Go.ChangeMaps (open_string shut_string)
set_option linter.unusedVariables false
set_option linter.unusedSimpArgs false
set_option maxRecDepth 100000
set_option linter.defProp false
set_option synthInstance.maxHeartbeats 2000000
namespace GWFnHops
def gx := And.intro (@hopRow.eq_1) (And.intro (@polRow.eq_1) (And.intro (@segRow.eq_1) (And.intro (@intRow.eq_1) (And.intro (@rowLen_ints) (And.intro (@rowLen_nil) (And.intro (@rowLen_cons) (And.intro (@rowLen_append) (And.intro (@lenL_app) (And.intro (@byteRow.eq_1) (And.intro (@rowLen_bytes) (And.intro (@bytesOf_map) (And.intro (@bytesOf_cons) (And.intro (@bytesOf_one) (And.intro (@rowLen_strs) (And.intro (@asRow.eq_1) (And.intro (@lkRow.eq_1) (And.intro (@tpRow.eq_1) (And.intro (@rowLen_hops) (And.intro (@rowLen_ases) (And.intro (@rowLen_links) (And.intro (@bcRow.eq_1) (And.intro (@rowLen_bcs) (@u8Row.eq_1)))))))))))))))))))))))
end GWFnHops
open GWFnHops

set_option maxHeartbeats 8000000 in
theorem fnHops_law {x0 : D} (i0 : IsC (.slice [.int .u8]) x0) : ACall Try.prog 10 [x0] (.bool true) [] := by
  
  obtain ⟨b, rfl, hm⟩ := isBytes i0
  by_cases hl : b.length ≤ 1048576
  · have e0 : decide ((1048576 : Int) < (b.length : Int)) = false := decide_eq_false (by omega)
    have cb := big_ok b
    rw [e0] at cb
    refine acall_mk Try.func10 rfl Try.ntmps10 Try.results10 (by kernel_rfl) (by simp) ?_
    simp only [args, Nat.zero_add, Nat.reduceAdd]
    repeat' (first | with_reducible refine go ?_ | with_reducible refine t_region fun KT hT => ?_ | (refine gp fun KK hK => ?_; first | (refine hK _ _ ?_; clear hK KK) | (refine hK _ ?_; clear hK KK; try simp only [upd_mk]) | ((with_reducible first | refine .inl ⟨_, _, ⟨cb, rfl, csq⟩, hK _ _ (nz ?_)⟩ | refine ⟨_, ⟨cb, rfl, rfl, csq⟩, hK _ (nz ?_)⟩); clear hK KK) | (refine ⟨by first | exact eq_hop, hK _ _ ?_⟩; clear hK KK) | (refine ⟨by first | exact eq_hop, hK _ (nz ?_)⟩; clear hK KK) | ((repeat refine And.intro (by first | omega | (rw [getD_map_lt (by omega)]; rfl) | (simp; first | done | omega)) ?_); first | (refine hK _ _ ?_; clear hK KK) | (refine hK _ ?_; clear hK KK; try simp only [upd_mk]))) | ((with_reducible first | refine o_nil (hT _ _ ?_) | refine h_nil (hT _ ?_)); clear hT KT) | ((first | refine gd fun AA BB hA hB => ?_ | refine tc fun AA BB hA hB => ?_); first | (refine go ?_; (first | refine hA ?_ | refine hB ?_); clear hA hB AA BB) | (refine go2 ?_ ?_ <;> intro hb <;> (first | refine hA ?_ | refine hB ?_) <;> clear hA hB AA BB <;> (try simp only [hb, decide_true, decide_false]) <;> (try (exfalso; first | (simp at hb; done) | (simp at hb; omega))))) | (with_reducible refine skS ?_; simp only [upd_mk]) | with_reducible refine tdr fun KT hT => ?_ | with_reducible refine bY ?_)
    (refine gp fun KK hK => ?_; refine .inr (.inr (eQ [] (drawHM_e b hl) (fun x1 hx1 => hK _ _ ?_))); refine nze ?_; clear hK KK)
    obtain ⟨k, ts, be, hp⟩ := x1
    repeat' (first | with_reducible refine go ?_ | with_reducible refine t_region fun KT hT => ?_ | (refine gp fun KK hK => ?_; first | (refine hK _ _ ?_; clear hK KK) | (refine hK _ ?_; clear hK KK; try simp only [upd_mk]) | (refine ⟨by first | exact eq_hop, hK _ _ ?_⟩; clear hK KK) | (refine ⟨by first | exact eq_hop, hK _ (nz ?_)⟩; clear hK KK) | ((repeat refine And.intro (by first | omega | (rw [getD_map_lt (by omega)]; rfl) | (simp; first | done | omega)) ?_); first | (refine hK _ _ ?_; clear hK KK) | (refine hK _ ?_; clear hK KK; try simp only [upd_mk]))) | ((with_reducible first | refine o_nil (hT _ _ ?_) | refine h_nil (hT _ ?_)); clear hT KT) | ((first | refine gd fun AA BB hA hB => ?_ | refine tc fun AA BB hA hB => ?_); first | (refine go ?_; (first | refine hA ?_ | refine hB ?_); clear hA hB AA BB) | (refine go2 ?_ ?_ <;> intro hb <;> (first | refine hA ?_ | refine hB ?_) <;> clear hA hB AA BB <;> (try simp only [hb, decide_true, decide_false]) <;> (try (exfalso; first | (simp at hb; done) | (simp at hb; omega))))) | (with_reducible refine skS ?_; simp only [upd_mk]) | with_reducible refine tdr fun KT hT => ?_ | with_reducible refine bY ?_)
    (refine gp fun KK hK => ?_; refine .inr (.inr (eQ [] (drawVH_e b hl) (fun x2 hx2 => hK _ _ ?_))); refine nze ?_; clear hK KK)
    obtain ⟨t, u, c, g⟩ := x2
    obtain ⟨ht, hu⟩ := hx2
    simp only at ht hu
    repeat' (first | with_reducible refine go ?_ | with_reducible refine t_region fun KT hT => ?_ | (refine gp fun KK hK => ?_; first | (refine hK _ _ ?_; clear hK KK) | (refine hK _ ?_; clear hK KK; try simp only [upd_mk]) | (refine ⟨by first | exact eq_hop, hK _ _ ?_⟩; clear hK KK) | (refine ⟨by first | exact eq_hop, hK _ (nz ?_)⟩; clear hK KK) | ((repeat refine And.intro (by first | omega | (rw [getD_map_lt (by omega)]; rfl) | (simp; first | done | omega)) ?_); first | (refine hK _ _ ?_; clear hK KK) | (refine hK _ ?_; clear hK KK; try simp only [upd_mk]))) | ((with_reducible first | refine o_nil (hT _ _ ?_) | refine h_nil (hT _ ?_)); clear hT KT) | ((first | refine gd fun AA BB hA hB => ?_ | refine tc fun AA BB hA hB => ?_); first | (refine go ?_; (first | refine hA ?_ | refine hB ?_); clear hA hB AA BB) | (refine go2 ?_ ?_ <;> intro hb <;> (first | refine hA ?_ | refine hB ?_) <;> clear hA hB AA BB <;> (try simp only [hb, decide_true, decide_false]) <;> (try (exfalso; first | (simp at hb; done) | (simp at hb; omega))))) | (with_reducible refine skS ?_; simp only [upd_mk]) | with_reducible refine tdr fun KT hT => ?_ | with_reducible refine bY ?_)
    (refine gp fun KK hK => ?_; refine .inr (.inr (eQ [] (drawVd_e b hl) (fun o ho => hK _ _ ?_))); refine nze ?_; clear hK KK)
    repeat' (first | with_reducible refine go ?_ | with_reducible refine t_region fun KT hT => ?_ | (refine gp fun KK hK => ?_; first | (refine hK _ _ ?_; clear hK KK) | (refine hK _ ?_; clear hK KK; try simp only [upd_mk]) | (refine ⟨by first | exact eq_hop, hK _ _ ?_⟩; clear hK KK) | (refine ⟨by first | exact eq_hop, hK _ (nz ?_)⟩; clear hK KK) | ((repeat refine And.intro (by first | omega | (rw [getD_map_lt (by omega)]; rfl) | (simp; first | done | omega)) ?_); first | (refine hK _ _ ?_; clear hK KK) | (refine hK _ ?_; clear hK KK; try simp only [upd_mk]))) | ((with_reducible first | refine o_nil (hT _ _ ?_) | refine h_nil (hT _ ?_)); clear hT KT) | ((first | refine gd fun AA BB hA hB => ?_ | refine tc fun AA BB hA hB => ?_); first | (refine go ?_; (first | refine hA ?_ | refine hB ?_); clear hA hB AA BB) | (refine go2 ?_ ?_ <;> intro hb <;> (first | refine hA ?_ | refine hB ?_) <;> clear hA hB AA BB <;> (try simp only [hb, decide_true, decide_false]) <;> (try (exfalso; first | (simp at hb; done) | (simp at hb; omega))))) | (with_reducible refine skS ?_; simp only [upd_mk]) | with_reducible refine tdr fun KT hT => ?_ | with_reducible refine bY ?_)
    (refine gp fun KK hK => ?_; refine .inr (.inr (eQ [] (drawEH_e b hl) (fun x3 hx3 => hK _ _ ?_))); refine nze ?_; clear hK KK)
    obtain ⟨x, y⟩ := x3
    repeat' (first | with_reducible refine go ?_ | with_reducible refine t_region fun KT hT => ?_ | (refine gp fun KK hK => ?_; first | (refine hK _ _ ?_; clear hK KK) | (refine hK _ ?_; clear hK KK; try simp only [upd_mk]) | (refine ⟨by first | exact eq_hop, hK _ _ ?_⟩; clear hK KK) | (refine ⟨by first | exact eq_hop, hK _ (nz ?_)⟩; clear hK KK) | ((repeat refine And.intro (by first | omega | (rw [getD_map_lt (by omega)]; rfl) | (simp; first | done | omega)) ?_); first | (refine hK _ _ ?_; clear hK KK) | (refine hK _ ?_; clear hK KK; try simp only [upd_mk]))) | ((with_reducible first | refine o_nil (hT _ _ ?_) | refine h_nil (hT _ ?_)); clear hT KT) | ((first | refine gd fun AA BB hA hB => ?_ | refine tc fun AA BB hA hB => ?_); first | (refine go ?_; (first | refine hA ?_ | refine hB ?_); clear hA hB AA BB) | (refine go2 ?_ ?_ <;> intro hb <;> (first | refine hA ?_ | refine hB ?_) <;> clear hA hB AA BB <;> (try simp only [hb, decide_true, decide_false]) <;> (try (exfalso; first | (simp at hb; done) | (simp at hb; omega))))) | (with_reducible refine skS ?_; simp only [upd_mk]) | with_reducible refine tdr fun KT hT => ?_ | with_reducible refine bY ?_)
    (refine gp fun KK hK => ?_; refine .inr (.inr (eQ [] (drawHV_e b hl) (fun x4 hx4 => hK _ _ ?_))); refine nze ?_; clear hK KK)
    obtain ⟨p, now⟩ := x4
    repeat' (first | with_reducible refine go ?_ | with_reducible refine t_region fun KT hT => ?_ | (refine gp fun KK hK => ?_; first | (refine hK _ _ ?_; clear hK KK) | (refine hK _ ?_; clear hK KK; try simp only [upd_mk]) | (refine ⟨by first | exact eq_hop, hK _ _ ?_⟩; clear hK KK) | (refine ⟨by first | exact eq_hop, hK _ (nz ?_)⟩; clear hK KK) | ((repeat refine And.intro (by first | omega | (rw [getD_map_lt (by omega)]; rfl) | (simp; first | done | omega)) ?_); first | (refine hK _ _ ?_; clear hK KK) | (refine hK _ ?_; clear hK KK; try simp only [upd_mk]))) | ((with_reducible first | refine o_nil (hT _ _ ?_) | refine h_nil (hT _ ?_)); clear hT KT) | ((first | refine gd fun AA BB hA hB => ?_ | refine tc fun AA BB hA hB => ?_); first | (refine go ?_; (first | refine hA ?_ | refine hB ?_); clear hA hB AA BB) | (refine go2 ?_ ?_ <;> intro hb <;> (first | refine hA ?_ | refine hB ?_) <;> clear hA hB AA BB <;> (try simp only [hb, decide_true, decide_false]) <;> (try (exfalso; first | (simp at hb; done) | (simp at hb; omega))))) | (with_reducible refine skS ?_; simp only [upd_mk]) | with_reducible refine tdr fun KT hT => ?_ | with_reducible refine bY ?_)
    (refine gp fun KK hK => ?_; refine .inr (.inr (eQ [] (drawFH_e b hl) (fun x5 hx5 => hK _ _ ?_))); refine nze ?_; clear hK KK)
    obtain ⟨v, q⟩ := x5
    obtain ⟨sv, sq⟩ := hx5
    simp only at sv sq
    have ht8 : t.ases.length ≤ 1048576 := by have := ht.n8; omega
    have hv8 : v.ases.length ≤ 1048576 := by have := sv.n8; omega
    have cf1 := fmtHop_i v q sv.w (hopS_W sq) hv8
    have cf2 := fmtHop_s v q sv.w (hopS_W sq) hv8
    have wu : IntKind.i64.wrap (u + 1) = u + 1 := wr64 (by omega) (by omega)
    rcases Bool.eq_false_or_eq_true (verHop t u c g) with hw | hw
    · obtain ⟨h1, h2, h3⟩ := (verHop_iff _ _ _ _).1 hw
      obtain ⟨v1, v2, v3, v4, v5, v6⟩ := (validHop_iff _).1 h1
      have wx : IntKind.i64.wrap (g.ex + 1) = g.ex + 1 := wr64 (by omega) (by omega)
      have wm : IntKind.i64.wrap (g.mac + 1) = g.mac + 1 := wr64 (by omega) (by omega)
      have wq : (g.mac + 1).tmod 2147483647 ≠ g.mac := by rw [Int.tmod_eq_emod_of_nonneg (by omega)]; omega
      have r1 := ver_ex hw
      have r2 := ver_mac _ wq hw
      have r3 := ver_ts hw
      have c1 := verHop_i t u c g ht8
      have c2 := verHop_s t u c g ht8
      have c3 := verHop_i t u c ⟨g.asn, g.ing, g.eg, g.ex + 1, g.mac⟩ ht8
      have c4 := verHop_i t u c ⟨g.asn, g.ing, g.eg, g.ex, (g.mac + 1).tmod 2147483647⟩ ht8
      have c5 := verHop_i t (u + 1) c g ht8
      rw [hw] at c1 c2
      rw [r1] at c3
      rw [r2] at c4
      rw [r3] at c5
      have hlt := realm_lt h2
      have g2 := getD_map_lt (f := asRow) hlt.2
      have ca := authHop_i (t.ases[g.asn.toNat]'hlt.2).key u c g
      rw [authHop, ← h3] at ca
      simp only [asRow] at g2
      generalize t.ases[g.asn.toNat]'hlt.2 = a0 at *
      (have fx := And.intro (@g2) (And.intro (@hlt) (And.intro (@wu) (And.intro (@wx) (And.intro (@wm) (And.intro (@beqI_self) (And.intro (@bneI_self) (And.intro (hp_ints x y) (And.intro (@bnB) (@decI_self)))))))))
       repeat' (first | with_reducible refine go ?_ | with_reducible refine t_region fun KT hT => ?_ | (refine gp fun KK hK => ?_; first | (refine hK _ _ ?_; clear hK KK) | (refine hK _ ?_; clear hK KK; try simp only [upd_mk]) | ((with_reducible first | refine .inl ⟨_, _, ⟨hopMac_i _ _ _ hp, rfl, csq⟩, hK _ _ (nz ?_)⟩ | refine .inl ⟨_, _, ⟨hopMac_s _ _ _ hp, rfl, csq⟩, hK _ _ (nz ?_)⟩ | refine .inl ⟨_, _, ⟨authHop_i _ _ _ hp, rfl, csq⟩, hK _ _ (nz ?_)⟩ | refine .inl ⟨_, _, ⟨authHop_s _ _ _ hp, rfl, csq⟩, hK _ _ (nz ?_)⟩ | refine .inl ⟨_, _, ⟨c1, rfl, csq⟩, hK _ _ (nz ?_)⟩ | refine .inl ⟨_, _, ⟨c2, rfl, csq⟩, hK _ _ (nz ?_)⟩ | refine .inl ⟨_, _, ⟨validHop_i o, rfl, csq⟩, hK _ _ (nz ?_)⟩ | refine .inl ⟨_, _, ⟨validHop_s o, rfl, csq⟩, hK _ _ (nz ?_)⟩ | refine .inl ⟨_, _, ⟨eqHops_i x y, rfl, csq⟩, hK _ _ (nz ?_)⟩ | refine .inl ⟨_, _, ⟨hva_i p _, rfl, csq⟩, hK _ _ (nz ?_)⟩ | refine .inl ⟨_, _, ⟨hva_s p _, rfl, csq⟩, hK _ _ (nz ?_)⟩ | refine .inl ⟨_, _, ⟨cf1, rfl, csq⟩, hK _ _ (nz ?_)⟩ | refine .inl ⟨_, _, ⟨cf2, rfl, csq⟩, hK _ _ (nz ?_)⟩ | refine .inl ⟨_, _, ⟨c3, rfl, csq⟩, hK _ _ (nz ?_)⟩ | refine .inl ⟨_, _, ⟨c4, rfl, csq⟩, hK _ _ (nz ?_)⟩ | refine .inl ⟨_, _, ⟨c5, rfl, csq⟩, hK _ _ (nz ?_)⟩ | refine .inl ⟨_, _, ⟨ca, rfl, csq⟩, hK _ _ (nz ?_)⟩ | refine ⟨_, ⟨hopMac_i _ _ _ hp, rfl, rfl, csq⟩, hK _ (nz ?_)⟩ | refine ⟨_, ⟨hopMac_s _ _ _ hp, rfl, rfl, csq⟩, hK _ (nz ?_)⟩ | refine ⟨_, ⟨authHop_i _ _ _ hp, rfl, rfl, csq⟩, hK _ (nz ?_)⟩ | refine ⟨_, ⟨authHop_s _ _ _ hp, rfl, rfl, csq⟩, hK _ (nz ?_)⟩ | refine ⟨_, ⟨c1, rfl, rfl, csq⟩, hK _ (nz ?_)⟩ | refine ⟨_, ⟨c2, rfl, rfl, csq⟩, hK _ (nz ?_)⟩ | refine ⟨_, ⟨validHop_i o, rfl, rfl, csq⟩, hK _ (nz ?_)⟩ | refine ⟨_, ⟨validHop_s o, rfl, rfl, csq⟩, hK _ (nz ?_)⟩ | refine ⟨_, ⟨eqHops_i x y, rfl, rfl, csq⟩, hK _ (nz ?_)⟩ | refine ⟨_, ⟨hva_i p _, rfl, rfl, csq⟩, hK _ (nz ?_)⟩ | refine ⟨_, ⟨hva_s p _, rfl, rfl, csq⟩, hK _ (nz ?_)⟩ | refine ⟨_, ⟨cf1, rfl, rfl, csq⟩, hK _ (nz ?_)⟩ | refine ⟨_, ⟨cf2, rfl, rfl, csq⟩, hK _ (nz ?_)⟩ | refine ⟨_, ⟨c3, rfl, rfl, csq⟩, hK _ (nz ?_)⟩ | refine ⟨_, ⟨c4, rfl, rfl, csq⟩, hK _ (nz ?_)⟩ | refine ⟨_, ⟨c5, rfl, rfl, csq⟩, hK _ (nz ?_)⟩ | refine ⟨_, ⟨ca, rfl, rfl, csq⟩, hK _ (nz ?_)⟩); clear hK KK) | (refine ⟨by first | exact eq_hop, hK _ _ ?_⟩; clear hK KK) | (refine ⟨by first | exact eq_hop, hK _ (nz ?_)⟩; clear hK KK) | ((repeat refine And.intro (by first | omega | (rw [getD_map_lt (by omega)]; rfl) | (simp; first | done | omega)) ?_); first | (refine hK _ _ ?_; clear hK KK) | (refine hK _ ?_; clear hK KK; try simp only [upd_mk]))) | ((with_reducible first | refine o_nil (hT _ _ ?_) | refine h_nil (hT _ ?_)); clear hT KT) | ((first | refine gd fun AA BB hA hB => ?_ | refine tc fun AA BB hA hB => ?_); first | (refine go ?_; (first | refine hA ?_ | refine hB ?_); clear hA hB AA BB) | (refine go2 ?_ ?_ <;> intro hb <;> (first | refine hA ?_ | refine hB ?_) <;> clear hA hB AA BB <;> (try simp only [hb, decide_true, decide_false]) <;> (try (exfalso; first | (simp at hb; done) | (simp at hb; omega))))) | (with_reducible refine skS ?_; simp only [upd_mk]) | (refine tdr (id := 9) fun KT hT => ?_; simp only [List.append_eq, List.cons_append, List.nil_append]) | with_reducible refine tdr fun KT hT => ?_ | with_reducible refine bY ?_)
       all_goals clear fx)
      all_goals (refine fe ?_; try exact trivial)
    · have c1 := verHop_i t u c g ht8
      have c2 := verHop_s t u c g ht8
      rw [hw] at c1 c2
      (have fx := And.intro (@beqI_self) (And.intro (@bneI_self) (And.intro (hp_ints x y) (@bnB)))
       repeat' (first | with_reducible refine go ?_ | with_reducible refine t_region fun KT hT => ?_ | (refine gp fun KK hK => ?_; first | (refine hK _ _ ?_; clear hK KK) | (refine hK _ ?_; clear hK KK; try simp only [upd_mk]) | ((with_reducible first | refine .inl ⟨_, _, ⟨hopMac_i _ _ _ hp, rfl, csq⟩, hK _ _ (nz ?_)⟩ | refine .inl ⟨_, _, ⟨hopMac_s _ _ _ hp, rfl, csq⟩, hK _ _ (nz ?_)⟩ | refine .inl ⟨_, _, ⟨authHop_i _ _ _ hp, rfl, csq⟩, hK _ _ (nz ?_)⟩ | refine .inl ⟨_, _, ⟨authHop_s _ _ _ hp, rfl, csq⟩, hK _ _ (nz ?_)⟩ | refine .inl ⟨_, _, ⟨c1, rfl, csq⟩, hK _ _ (nz ?_)⟩ | refine .inl ⟨_, _, ⟨c2, rfl, csq⟩, hK _ _ (nz ?_)⟩ | refine .inl ⟨_, _, ⟨validHop_i o, rfl, csq⟩, hK _ _ (nz ?_)⟩ | refine .inl ⟨_, _, ⟨validHop_s o, rfl, csq⟩, hK _ _ (nz ?_)⟩ | refine .inl ⟨_, _, ⟨eqHops_i x y, rfl, csq⟩, hK _ _ (nz ?_)⟩ | refine .inl ⟨_, _, ⟨hva_i p _, rfl, csq⟩, hK _ _ (nz ?_)⟩ | refine .inl ⟨_, _, ⟨hva_s p _, rfl, csq⟩, hK _ _ (nz ?_)⟩ | refine .inl ⟨_, _, ⟨cf1, rfl, csq⟩, hK _ _ (nz ?_)⟩ | refine .inl ⟨_, _, ⟨cf2, rfl, csq⟩, hK _ _ (nz ?_)⟩ | refine ⟨_, ⟨hopMac_i _ _ _ hp, rfl, rfl, csq⟩, hK _ (nz ?_)⟩ | refine ⟨_, ⟨hopMac_s _ _ _ hp, rfl, rfl, csq⟩, hK _ (nz ?_)⟩ | refine ⟨_, ⟨authHop_i _ _ _ hp, rfl, rfl, csq⟩, hK _ (nz ?_)⟩ | refine ⟨_, ⟨authHop_s _ _ _ hp, rfl, rfl, csq⟩, hK _ (nz ?_)⟩ | refine ⟨_, ⟨c1, rfl, rfl, csq⟩, hK _ (nz ?_)⟩ | refine ⟨_, ⟨c2, rfl, rfl, csq⟩, hK _ (nz ?_)⟩ | refine ⟨_, ⟨validHop_i o, rfl, rfl, csq⟩, hK _ (nz ?_)⟩ | refine ⟨_, ⟨validHop_s o, rfl, rfl, csq⟩, hK _ (nz ?_)⟩ | refine ⟨_, ⟨eqHops_i x y, rfl, rfl, csq⟩, hK _ (nz ?_)⟩ | refine ⟨_, ⟨hva_i p _, rfl, rfl, csq⟩, hK _ (nz ?_)⟩ | refine ⟨_, ⟨hva_s p _, rfl, rfl, csq⟩, hK _ (nz ?_)⟩ | refine ⟨_, ⟨cf1, rfl, rfl, csq⟩, hK _ (nz ?_)⟩ | refine ⟨_, ⟨cf2, rfl, rfl, csq⟩, hK _ (nz ?_)⟩); clear hK KK) | (refine ⟨by first | exact eq_hop, hK _ _ ?_⟩; clear hK KK) | (refine ⟨by first | exact eq_hop, hK _ (nz ?_)⟩; clear hK KK) | ((repeat refine And.intro (by first | omega | (rw [getD_map_lt (by omega)]; rfl) | (simp; first | done | omega)) ?_); first | (refine hK _ _ ?_; clear hK KK) | (refine hK _ ?_; clear hK KK; try simp only [upd_mk]))) | ((with_reducible first | refine o_nil (hT _ _ ?_) | refine h_nil (hT _ ?_)); clear hT KT) | ((first | refine gd fun AA BB hA hB => ?_ | refine tc fun AA BB hA hB => ?_); first | (refine go ?_; (first | refine hA ?_ | refine hB ?_); clear hA hB AA BB) | (refine go2 ?_ ?_ <;> intro hb <;> (first | refine hA ?_ | refine hB ?_) <;> clear hA hB AA BB <;> (try simp only [hb, decide_true, decide_false]) <;> (try (exfalso; first | (simp at hb; done) | (simp at hb; omega))))) | (with_reducible refine skS ?_; simp only [upd_mk]) | (refine tdr (id := 9) fun KT hT => ?_; simp only [List.append_eq, List.cons_append, List.nil_append]) | with_reducible refine tdr fun KT hT => ?_ | with_reducible refine bY ?_)
       all_goals clear fx)
      all_goals (refine fe ?_; try exact trivial)
  · have cb := big_ok b
    have e0 : decide ((1048576 : Int) < (b.length : Int)) = true := decide_eq_true (by omega)
    rw [e0] at cb
    refine acall_mk Try.func10 rfl Try.ntmps10 Try.results10 (by kernel_rfl) (by simp) ?_
    simp only [args, Nat.zero_add, Nat.reduceAdd]
    repeat' (first | with_reducible refine go ?_ | with_reducible refine t_region fun KT hT => ?_ | (refine gp fun KK hK => ?_; first | (refine hK _ _ ?_; clear hK KK) | (refine hK _ ?_; clear hK KK; try simp only [upd_mk]) | ((with_reducible first | refine .inl ⟨_, _, ⟨cb, rfl, csq⟩, hK _ _ (nz ?_)⟩ | refine ⟨_, ⟨cb, rfl, rfl, csq⟩, hK _ (nz ?_)⟩); clear hK KK) | (refine ⟨by first | exact eq_hop, hK _ _ ?_⟩; clear hK KK) | (refine ⟨by first | exact eq_hop, hK _ (nz ?_)⟩; clear hK KK) | ((repeat refine And.intro (by first | omega | (rw [getD_map_lt (by omega)]; rfl) | (simp; first | done | omega)) ?_); first | (refine hK _ _ ?_; clear hK KK) | (refine hK _ ?_; clear hK KK; try simp only [upd_mk]))) | ((with_reducible first | refine o_nil (hT _ _ ?_) | refine h_nil (hT _ ?_)); clear hT KT) | ((first | refine gd fun AA BB hA hB => ?_ | refine tc fun AA BB hA hB => ?_); first | (refine go ?_; (first | refine hA ?_ | refine hB ?_); clear hA hB AA BB) | (refine go2 ?_ ?_ <;> intro hb <;> (first | refine hA ?_ | refine hB ?_) <;> clear hA hB AA BB <;> (try simp only [hb, decide_true, decide_false]) <;> (try (exfalso; first | (simp at hb; done) | (simp at hb; omega))))) | (with_reducible refine skS ?_; simp only [upd_mk]) | with_reducible refine tdr fun KT hT => ?_ | with_reducible refine bY ?_)
    (refine fe ?_; try exact trivial)

end Go.Proofs.Ytbinljboomkkdaa
