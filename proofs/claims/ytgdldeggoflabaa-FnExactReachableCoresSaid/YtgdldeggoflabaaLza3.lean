/- The functions of this program, walked by the evaluator: part za, 3. -/
import Derived.Test.YtgdldeggoflabaaLn1
import Derived.Test.YtgdldeggoflabaaLza2
namespace Go.Proofs.Ytgdldeggoflabaa
open Go.RowKit
set_option linter.unusedSimpArgs false
set_option linter.unusedVariables false
set_option maxRecDepth 100000
set_option linter.defProp false
namespace GLza3
def gx := And.intro (@hopRow.eq_1) (And.intro (@polRow.eq_1) (And.intro (@segRow.eq_1) (And.intro (@intRow.eq_1) (And.intro (@rowLen_ints) (And.intro (@rowLen_nil) (And.intro (@rowLen_cons) (And.intro (@rowLen_append) (And.intro (@lenL_app) (And.intro (@byteRow.eq_1) (And.intro (@rowLen_bytes) (And.intro (@bytesOf_map) (And.intro (@bytesOf_cons) (And.intro (@bytesOf_one) (And.intro (@rowLen_strs) (And.intro (@asRow.eq_1) (And.intro (@lkRow.eq_1) (And.intro (@tpRow.eq_1) (And.intro (@rowLen_hops) (And.intro (@rowLen_ases) (And.intro (@rowLen_links) (And.intro (@bcRow.eq_1) (And.intro (@rowLen_bcs) (@u8Row.eq_1)))))))))))))))))))))))
end GLza3
open GLza3
theorem par_s (t : Tp) (r : Int) (h2 : t.links.length ≤ 1048576) : ACall Try.prog 139 [.agg (tpRow t), .int .i64 r] (.sl ((nbrs t 3 r).map intRow)) [] := by
  refine acall_mk Try.func139 rfl Try.ntmps139 Try.results139 (by kernel_rfl) (by simp) ?_
  simp only [args, Nat.zero_add, Nat.reduceAdd]
  repeat' (first | with_reducible refine go ?_ | with_reducible refine t_region fun KT hT => ?_ | (refine gp fun KK hK => ?_; first | (refine hK _ _ ?_; clear hK KK) | (refine hK _ ?_; clear hK KK; try simp only [upd_mk]) | ((with_reducible first | refine .inl ⟨_, _, ⟨behind_s t 3 r h2, rfl, csq⟩, hK _ _ (nz ?_)⟩ | refine ⟨_, ⟨behind_s t 3 r h2, rfl, rfl, csq⟩, hK _ (nz ?_)⟩); clear hK KK) | (refine ⟨by first | exact eq_hop, hK _ _ ?_⟩; clear hK KK) | (refine ⟨by first | exact eq_hop, hK _ (nz ?_)⟩; clear hK KK) | ((repeat refine And.intro (by first | omega | (rw [getD_map_lt (by omega)]; rfl) | (simp; first | done | omega)) ?_); first | (refine hK _ _ ?_; clear hK KK) | (refine hK _ ?_; clear hK KK; try simp only [upd_mk]))) | ((with_reducible first | refine o_nil (hT _ _ ?_) | refine h_nil (hT _ ?_)); clear hT KT) | ((first | refine gd fun AA BB hA hB => ?_ | refine tc fun AA BB hA hB => ?_); first | (refine go ?_; (first | refine hA ?_ | refine hB ?_); clear hA hB AA BB) | (refine go2 ?_ ?_ <;> intro hb <;> (first | refine hA ?_ | refine hB ?_) <;> clear hA hB AA BB <;> (try simp only [hb, decide_true, decide_false]) <;> (try (exfalso; first | (simp at hb; done) | (simp at hb; omega))))) | (with_reducible refine skS ?_; simp only [upd_mk]) | with_reducible refine tdr fun KT hT => ?_ | with_reducible refine bY ?_)
  (refine fe ?_; try exact trivial)

theorem anc_s (t : Tp) (r : Int) (h2 : t.links.length ≤ 1048576) : ACall Try.prog 82 [.agg (tpRow t), .int .i64 r] (.int .i64 (upTo t 3 [r] 10 : Nat)) [] := by
  have c1 := par_s t r h2
  have c2 := mkSet_s (nbrs t 3 r) (by have := nbrs_len t 3 r; omega)
  rw [mkSet_nbrs] at c2
  have c3 := reach_s t (nS t 3 r) 3 (nS_lt _ _ _) h2
  have e : nS t 3 r = nSL t 3 [r] := by simp [nSL]
  have e2 := reach_eq t 3 [r] 9
  rw [← e] at e2
  rw [e2] at c3
  refine acall_mk Try.func82 rfl Try.ntmps82 Try.results82 (by kernel_rfl) (by simp) ?_
  simp only [args, Nat.zero_add, Nat.reduceAdd]
  repeat' (first | with_reducible refine go ?_ | with_reducible refine t_region fun KT hT => ?_ | (refine gp fun KK hK => ?_; first | (refine hK _ _ ?_; clear hK KK) | (refine hK _ ?_; clear hK KK; try simp only [upd_mk]) | ((with_reducible first | refine .inl ⟨_, _, ⟨c1, rfl, csq⟩, hK _ _ (nz ?_)⟩ | refine .inl ⟨_, _, ⟨c2, rfl, csq⟩, hK _ _ (nz ?_)⟩ | refine .inl ⟨_, _, ⟨c3, rfl, csq⟩, hK _ _ (nz ?_)⟩ | refine ⟨_, ⟨c1, rfl, rfl, csq⟩, hK _ (nz ?_)⟩ | refine ⟨_, ⟨c2, rfl, rfl, csq⟩, hK _ (nz ?_)⟩ | refine ⟨_, ⟨c3, rfl, rfl, csq⟩, hK _ (nz ?_)⟩); clear hK KK) | (refine ⟨by first | exact eq_hop, hK _ _ ?_⟩; clear hK KK) | (refine ⟨by first | exact eq_hop, hK _ (nz ?_)⟩; clear hK KK) | ((repeat refine And.intro (by first | omega | (rw [getD_map_lt (by omega)]; rfl) | (simp; first | done | omega)) ?_); first | (refine hK _ _ ?_; clear hK KK) | (refine hK _ ?_; clear hK KK; try simp only [upd_mk]))) | ((with_reducible first | refine o_nil (hT _ _ ?_) | refine h_nil (hT _ ?_)); clear hT KT) | ((first | refine gd fun AA BB hA hB => ?_ | refine tc fun AA BB hA hB => ?_); first | (refine go ?_; (first | refine hA ?_ | refine hB ?_); clear hA hB AA BB) | (refine go2 ?_ ?_ <;> intro hb <;> (first | refine hA ?_ | refine hB ?_) <;> clear hA hB AA BB <;> (try simp only [hb, decide_true, decide_false]) <;> (try (exfalso; first | (simp at hb; done) | (simp at hb; omega))))) | (with_reducible refine skS ?_; simp only [upd_mk]) | with_reducible refine tdr fun KT hT => ?_ | with_reducible refine bY ?_)
  (refine fe ?_; try exact trivial)

set_option maxHeartbeats 4000000 in
theorem rCores_i (t : Tp) (r : Int) (h1 : t.ases.length ≤ 1048576) (h2 : t.links.length ≤ 1048576) : ACall Try.prog 32 [.agg (tpRow t), .int .i64 r] (.fs 0) [(rCores t r).map intRow] := by
  have c := anc_i t r h2
  have hl := elems_len (addE (upTo t 3 [r] 10 : Nat) r)
  have hst := filt_step t (elems (addE (upTo t 3 [r] 10 : Nat) r))
  have hfl := filt_le t (elems (addE (upTo t 3 [r] 10 : Nat) r))
  have hall : rCores t r = ((elems (addE (upTo t 3 [r] 10 : Nat) r)).take (elems (addE (upTo t 3 [r] 10 : Nat) r)).length).filter (fun x => coreF t x) := by rw [List.take_length]; rfl
  rw [hall]
  refine acall_mk Try.func32 rfl Try.ntmps32 Try.results32 (by kernel_rfl) (by simp) ?_
  simp only [args, Nat.zero_add, Nat.reduceAdd]
  repeat' (first | with_reducible refine go ?_ | with_reducible refine t_region fun KT hT => ?_ | (refine gp fun KK hK => ?_; first | (refine hK _ _ ?_; clear hK KK) | (refine hK _ ?_; clear hK KK; try simp only [upd_mk]) | ((with_reducible first | refine .inl ⟨_, _, ⟨c, rfl, csq⟩, hK _ _ (nz ?_)⟩ | refine .inl ⟨_, _, ⟨addE_i _ _, rfl, csq⟩, hK _ _ (nz ?_)⟩ | refine .inl ⟨_, _, ⟨elems_i _, rfl, csq⟩, hK _ _ (nz ?_)⟩ | refine ⟨_, ⟨c, rfl, rfl, csq⟩, hK _ (nz ?_)⟩ | refine ⟨_, ⟨addE_i _ _, rfl, rfl, csq⟩, hK _ (nz ?_)⟩ | refine ⟨_, ⟨elems_i _, rfl, rfl, csq⟩, hK _ (nz ?_)⟩); clear hK KK) | (refine ⟨by first | exact eq_hop, hK _ _ ?_⟩; clear hK KK) | (refine ⟨by first | exact eq_hop, hK _ (nz ?_)⟩; clear hK KK) | ((repeat refine And.intro (by first | omega | (rw [getD_map_lt (by omega)]; rfl) | (simp; first | done | omega)) ?_); first | (refine hK _ _ ?_; clear hK KK) | (refine hK _ ?_; clear hK KK; try simp only [upd_mk]))) | ((with_reducible first | refine o_nil (hT _ _ ?_) | refine h_nil (hT _ ?_)); clear hT KT) | ((first | refine gd fun AA BB hA hB => ?_ | refine tc fun AA BB hA hB => ?_); first | (refine go ?_; (first | refine hA ?_ | refine hB ?_); clear hA hB AA BB) | (refine go2 ?_ ?_ <;> intro hb <;> (first | refine hA ?_ | refine hB ?_) <;> clear hA hB AA BB <;> (try simp only [hb, decide_true, decide_false]) <;> (try (exfalso; first | (simp at hb; done) | (simp at hb; omega))))) | (with_reducible refine skS ?_; simp only [upd_mk]) | with_reducible refine tdr fun KT hT => ?_ | with_reducible refine bY ?_)
  generalize elems (addE (upTo t 3 [r] 10 : Nat) r) = L at *
  refine t_loop (fun k : Nat => [(2, .ptr 2 0 0), (5, .fs 99), (13, .sl (L.map intRow)), (14, .int .i64 L.length), (15, .int .i64 k)]) (fun k => [(99, .row (((L.take k).filter (fun x => coreF t x)).map intRow)), (2, .box (tpRow t))]) (fun k => k ≤ L.length) (fun k => L.length - k) 0 (imp_nil 5 99 rfl rfl (imp_keep (by simp [Keep, mk]) (by simp [KeepT, mkT]) rfl)) (Nat.zero_le _) ?_
  intro k hk
  have hfk := hfl k
  rcases Nat.lt_or_ge k L.length with h | h
  · have e1 : decide ((k : Int) < (L.length : Int)) = true := decide_eq_true (by omega)
    have e2 := getD_map_lt (f := intRow) h
    have st := hst k h
    rcases Bool.eq_false_or_eq_true (coreF t L[k]) with q | q
    · rw [q, if_pos rfl] at st
      (have fx := And.intro (@e1) (And.intro (@e2) (And.intro (@h) (@q)))
       repeat' (first | with_reducible refine go ?_ | with_reducible refine t_region fun KT hT => ?_ | (refine gp fun KK hK => ?_; first | (refine hK _ _ ?_; clear hK KK) | (refine hK _ ?_; clear hK KK; try simp only [upd_mk]) | ((with_reducible first | refine .inl ⟨_, _, ⟨core_i t _ h1, rfl, csq⟩, hK _ _ (nz ?_)⟩ | refine ⟨_, ⟨core_i t _ h1, rfl, rfl, csq⟩, hK _ (nz ?_)⟩); clear hK KK) | (refine ⟨by first | exact eq_hop, hK _ _ ?_⟩; clear hK KK) | (refine ⟨by first | exact eq_hop, hK _ (nz ?_)⟩; clear hK KK) | ((repeat refine And.intro (by first | omega | (rw [getD_map_lt (by omega)]; rfl) | (simp; first | done | omega)) ?_); first | (refine hK _ _ ?_; clear hK KK) | (refine hK _ ?_; clear hK KK; try simp only [upd_mk]))) | ((with_reducible first | refine o_nil (hT _ _ ?_) | refine h_nil (hT _ ?_)); clear hT KT) | ((first | refine gd fun AA BB hA hB => ?_ | refine tc fun AA BB hA hB => ?_); first | (refine go ?_; (first | refine hA ?_ | refine hB ?_); clear hA hB AA BB) | (refine go2 ?_ ?_ <;> intro hb <;> (first | refine hA ?_ | refine hB ?_) <;> clear hA hB AA BB <;> (try simp only [hb, decide_true, decide_false]) <;> (try (exfalso; first | (simp at hb; done) | (simp at hb; omega))))) | (with_reducible refine skS ?_; simp only [upd_mk]) | with_reducible refine tdr fun KT hT => ?_ | with_reducible refine bY ?_)
       all_goals clear fx)
      refine k_rnd (k + 1) (imp_drop 24 (imp_keep ?_ ?_ rfl)) h (by omega)
      · simp [Keep, mk, scrP, scr, wrapS (show k < 4611686018427387904 by omega)]
      · simp [KeepT, mkT, del, scrT, Ent.scr, scrL, scr, st]
    · rw [q, if_neg (by simp), List.append_nil] at st
      (have fx := And.intro (@e1) (And.intro (@e2) (And.intro (@h) (@q)))
       repeat' (first | with_reducible refine go ?_ | with_reducible refine t_region fun KT hT => ?_ | (refine gp fun KK hK => ?_; first | (refine hK _ _ ?_; clear hK KK) | (refine hK _ ?_; clear hK KK; try simp only [upd_mk]) | ((with_reducible first | refine .inl ⟨_, _, ⟨core_i t _ h1, rfl, csq⟩, hK _ _ (nz ?_)⟩ | refine ⟨_, ⟨core_i t _ h1, rfl, rfl, csq⟩, hK _ (nz ?_)⟩); clear hK KK) | (refine ⟨by first | exact eq_hop, hK _ _ ?_⟩; clear hK KK) | (refine ⟨by first | exact eq_hop, hK _ (nz ?_)⟩; clear hK KK) | ((repeat refine And.intro (by first | omega | (rw [getD_map_lt (by omega)]; rfl) | (simp; first | done | omega)) ?_); first | (refine hK _ _ ?_; clear hK KK) | (refine hK _ ?_; clear hK KK; try simp only [upd_mk]))) | ((with_reducible first | refine o_nil (hT _ _ ?_) | refine h_nil (hT _ ?_)); clear hT KT) | ((first | refine gd fun AA BB hA hB => ?_ | refine tc fun AA BB hA hB => ?_); first | (refine go ?_; (first | refine hA ?_ | refine hB ?_); clear hA hB AA BB) | (refine go2 ?_ ?_ <;> intro hb <;> (first | refine hA ?_ | refine hB ?_) <;> clear hA hB AA BB <;> (try simp only [hb, decide_true, decide_false]) <;> (try (exfalso; first | (simp at hb; done) | (simp at hb; omega))))) | (with_reducible refine skS ?_; simp only [upd_mk]) | with_reducible refine tdr fun KT hT => ?_ | with_reducible refine bY ?_)
       all_goals clear fx)
      refine k_rnd (k + 1) (imp_keep ?_ ?_ rfl) h (by omega)
      · simp [Keep, mk, scrP, scr, wrapS (show k < 4611686018427387904 by omega)]
      · simp [KeepT, mkT, del, scrT, Ent.scr, scrL, scr, st]
  · obtain rfl : k = L.length := by omega
    have e1 : decide ((L.length : Int) < (L.length : Int)) = false := by simp
    (have fx := (@e1)
     repeat' (first | with_reducible refine go ?_ | with_reducible refine t_region fun KT hT => ?_ | (refine gp fun KK hK => ?_; first | (refine hK _ _ ?_; clear hK KK) | (refine hK _ ?_; clear hK KK; try simp only [upd_mk]) | (refine ⟨by first | exact eq_hop, hK _ _ ?_⟩; clear hK KK) | (refine ⟨by first | exact eq_hop, hK _ (nz ?_)⟩; clear hK KK) | ((repeat refine And.intro (by first | omega | (rw [getD_map_lt (by omega)]; rfl) | (simp; first | done | omega)) ?_); first | (refine hK _ _ ?_; clear hK KK) | (refine hK _ ?_; clear hK KK; try simp only [upd_mk]))) | ((with_reducible first | refine o_nil (hT _ _ ?_) | refine h_nil (hT _ ?_)); clear hT KT) | ((first | refine gd fun AA BB hA hB => ?_ | refine tc fun AA BB hA hB => ?_); first | (refine go ?_; (first | refine hA ?_ | refine hB ?_); clear hA hB AA BB) | (refine go2 ?_ ?_ <;> intro hb <;> (first | refine hA ?_ | refine hB ?_) <;> clear hA hB AA BB <;> (try simp only [hb, decide_true, decide_false]) <;> (try (exfalso; first | (simp at hb; done) | (simp at hb; omega))))) | (with_reducible refine skS ?_; simp only [upd_mk]) | with_reducible refine tdr fun KT hT => ?_ | with_reducible refine bY ?_)
     all_goals clear fx)
    (refine fo [99] ?_; try exact trivial)
    exact ⟨rfl, rfl, by simp⟩

set_option maxHeartbeats 4000000 in
theorem rCores_so (t : Tp) (r : Int) (h1 : t.ases.length ≤ 1048576) (h2 : t.links.length ≤ 1048576) : ACall Try.prog 31 [.agg (tpRow t), .int .i64 r] (.fs 0) [(rCores t r).map intRow] := by
  have c := anc_s t r h2
  have hl := elems_len (addE (upTo t 3 [r] 10 : Nat) r)
  have hst := filt_step t (elems (addE (upTo t 3 [r] 10 : Nat) r))
  have hfl := filt_le t (elems (addE (upTo t 3 [r] 10 : Nat) r))
  have hall : rCores t r = ((elems (addE (upTo t 3 [r] 10 : Nat) r)).take (elems (addE (upTo t 3 [r] 10 : Nat) r)).length).filter (fun x => coreF t x) := by rw [List.take_length]; rfl
  rw [hall]
  refine acall_mk Try.func31 rfl Try.ntmps31 Try.results31 (by kernel_rfl) (by simp) ?_
  simp only [args, Nat.zero_add, Nat.reduceAdd]
  repeat' (first | with_reducible refine go ?_ | with_reducible refine t_region fun KT hT => ?_ | (refine gp fun KK hK => ?_; first | (refine hK _ _ ?_; clear hK KK) | (refine hK _ ?_; clear hK KK; try simp only [upd_mk]) | ((with_reducible first | refine .inl ⟨_, _, ⟨c, rfl, csq⟩, hK _ _ (nz ?_)⟩ | refine .inl ⟨_, _, ⟨addE_s _ _, rfl, csq⟩, hK _ _ (nz ?_)⟩ | refine .inl ⟨_, _, ⟨elems_s _, rfl, csq⟩, hK _ _ (nz ?_)⟩ | refine ⟨_, ⟨c, rfl, rfl, csq⟩, hK _ (nz ?_)⟩ | refine ⟨_, ⟨addE_s _ _, rfl, rfl, csq⟩, hK _ (nz ?_)⟩ | refine ⟨_, ⟨elems_s _, rfl, rfl, csq⟩, hK _ (nz ?_)⟩); clear hK KK) | (refine ⟨by first | exact eq_hop, hK _ _ ?_⟩; clear hK KK) | (refine ⟨by first | exact eq_hop, hK _ (nz ?_)⟩; clear hK KK) | ((repeat refine And.intro (by first | omega | (rw [getD_map_lt (by omega)]; rfl) | (simp; first | done | omega)) ?_); first | (refine hK _ _ ?_; clear hK KK) | (refine hK _ ?_; clear hK KK; try simp only [upd_mk]))) | ((with_reducible first | refine o_nil (hT _ _ ?_) | refine h_nil (hT _ ?_)); clear hT KT) | ((first | refine gd fun AA BB hA hB => ?_ | refine tc fun AA BB hA hB => ?_); first | (refine go ?_; (first | refine hA ?_ | refine hB ?_); clear hA hB AA BB) | (refine go2 ?_ ?_ <;> intro hb <;> (first | refine hA ?_ | refine hB ?_) <;> clear hA hB AA BB <;> (try simp only [hb, decide_true, decide_false]) <;> (try (exfalso; first | (simp at hb; done) | (simp at hb; omega))))) | (with_reducible refine skS ?_; simp only [upd_mk]) | with_reducible refine tdr fun KT hT => ?_ | with_reducible refine bY ?_)
  generalize elems (addE (upTo t 3 [r] 10 : Nat) r) = L at *
  refine t_loop (fun k : Nat => [(2, .ptr 2 0 0), (5, .fs 99), (6, .sl (L.map intRow)), (7, .int .i64 k)]) (fun k => [(99, .row (((L.take k).filter (fun x => coreF t x)).map intRow)), (2, .box (tpRow t))]) (fun k => k ≤ L.length) (fun k => L.length - k) 0 (imp_move 5 8 99 rfl rfl rfl (imp_keep (by simp [Keep, mk, scrP, scr]) (by simp [KeepT, mkT, del, scrT, Ent.scr, scrL, scr]) rfl)) (Nat.zero_le _) ?_
  intro k hk
  have hfk := hfl k
  rcases Nat.lt_or_ge k L.length with h | h
  · have e1 : decide ((k : Int) < (L.length : Int)) = true := decide_eq_true (by omega)
    have e2 := getD_map_lt (f := intRow) h
    have st := hst k h
    rcases Bool.eq_false_or_eq_true (realm t L[k]) with p | p
    · have hlt := realm_lt p
      have e3 := getD_map_lt (f := asRow) hlt.2
      have ec : coreF t L[k] = (t.ases[L[k].toNat]'hlt.2).core := by rw [coreF, dif_pos p]
      simp only [asRow] at e3
      rw [ec] at st
      generalize (t.ases[L[k].toNat]'hlt.2).core = q at *
      rcases Bool.eq_false_or_eq_true q with rfl | rfl
      · rw [if_pos rfl] at st
        (have fx := And.intro (@e1) (And.intro (@e2) (And.intro (@h) (And.intro (@p) (And.intro (@e3) (@hlt)))))
         repeat' (first | with_reducible refine go ?_ | with_reducible refine t_region fun KT hT => ?_ | (refine gp fun KK hK => ?_; first | (refine hK _ _ ?_; clear hK KK) | (refine hK _ ?_; clear hK KK; try simp only [upd_mk]) | ((with_reducible first | refine .inl ⟨_, _, ⟨realm_s t _ h1, rfl, csq⟩, hK _ _ (nz ?_)⟩ | refine ⟨_, ⟨realm_s t _ h1, rfl, rfl, csq⟩, hK _ (nz ?_)⟩); clear hK KK) | (refine ⟨by first | exact eq_hop, hK _ _ ?_⟩; clear hK KK) | (refine ⟨by first | exact eq_hop, hK _ (nz ?_)⟩; clear hK KK) | ((repeat refine And.intro (by first | omega | (rw [getD_map_lt (by omega)]; rfl) | (simp; first | done | omega)) ?_); first | (refine hK _ _ ?_; clear hK KK) | (refine hK _ ?_; clear hK KK; try simp only [upd_mk]))) | ((with_reducible first | refine o_nil (hT _ _ ?_) | refine h_nil (hT _ ?_)); clear hT KT) | ((first | refine gd fun AA BB hA hB => ?_ | refine tc fun AA BB hA hB => ?_); first | (refine go ?_; (first | refine hA ?_ | refine hB ?_); clear hA hB AA BB) | (refine go2 ?_ ?_ <;> intro hb <;> (first | refine hA ?_ | refine hB ?_) <;> clear hA hB AA BB <;> (try simp only [hb, decide_true, decide_false]) <;> (try (exfalso; first | (simp at hb; done) | (simp at hb; omega))))) | (with_reducible refine skS ?_; simp only [upd_mk]) | with_reducible refine tdr fun KT hT => ?_ | with_reducible refine bY ?_)
         all_goals clear fx)
        refine k_rnd (k + 1) (imp_drop 43 (imp_keep ?_ ?_ rfl)) h (by omega)
        · simp [Keep, mk, scrP, scr, wrapS (show k < 4611686018427387904 by omega)]
        · simp [KeepT, mkT, del, scrT, Ent.scr, scrL, scr, st]
      · rw [if_neg (by simp), List.append_nil] at st
        (have fx := And.intro (@e1) (And.intro (@e2) (And.intro (@h) (And.intro (@p) (And.intro (@e3) (@hlt)))))
         repeat' (first | with_reducible refine go ?_ | with_reducible refine t_region fun KT hT => ?_ | (refine gp fun KK hK => ?_; first | (refine hK _ _ ?_; clear hK KK) | (refine hK _ ?_; clear hK KK; try simp only [upd_mk]) | ((with_reducible first | refine .inl ⟨_, _, ⟨realm_s t _ h1, rfl, csq⟩, hK _ _ (nz ?_)⟩ | refine ⟨_, ⟨realm_s t _ h1, rfl, rfl, csq⟩, hK _ (nz ?_)⟩); clear hK KK) | (refine ⟨by first | exact eq_hop, hK _ _ ?_⟩; clear hK KK) | (refine ⟨by first | exact eq_hop, hK _ (nz ?_)⟩; clear hK KK) | ((repeat refine And.intro (by first | omega | (rw [getD_map_lt (by omega)]; rfl) | (simp; first | done | omega)) ?_); first | (refine hK _ _ ?_; clear hK KK) | (refine hK _ ?_; clear hK KK; try simp only [upd_mk]))) | ((with_reducible first | refine o_nil (hT _ _ ?_) | refine h_nil (hT _ ?_)); clear hT KT) | ((first | refine gd fun AA BB hA hB => ?_ | refine tc fun AA BB hA hB => ?_); first | (refine go ?_; (first | refine hA ?_ | refine hB ?_); clear hA hB AA BB) | (refine go2 ?_ ?_ <;> intro hb <;> (first | refine hA ?_ | refine hB ?_) <;> clear hA hB AA BB <;> (try simp only [hb, decide_true, decide_false]) <;> (try (exfalso; first | (simp at hb; done) | (simp at hb; omega))))) | (with_reducible refine skS ?_; simp only [upd_mk]) | with_reducible refine tdr fun KT hT => ?_ | with_reducible refine bY ?_)
         all_goals clear fx)
        refine k_rnd (k + 1) (imp_keep ?_ ?_ rfl) h (by omega)
        · simp [Keep, mk, scrP, scr, wrapS (show k < 4611686018427387904 by omega)]
        · simp [KeepT, mkT, del, scrT, Ent.scr, scrL, scr, st]
    · have ec : coreF t L[k] = false := by rw [coreF, dif_neg (by simp [p])]
      rw [ec, if_neg (by simp), List.append_nil] at st
      (have fx := And.intro (@e1) (And.intro (@e2) (And.intro (@h) (@p)))
       repeat' (first | with_reducible refine go ?_ | with_reducible refine t_region fun KT hT => ?_ | (refine gp fun KK hK => ?_; first | (refine hK _ _ ?_; clear hK KK) | (refine hK _ ?_; clear hK KK; try simp only [upd_mk]) | ((with_reducible first | refine .inl ⟨_, _, ⟨realm_s t _ h1, rfl, csq⟩, hK _ _ (nz ?_)⟩ | refine ⟨_, ⟨realm_s t _ h1, rfl, rfl, csq⟩, hK _ (nz ?_)⟩); clear hK KK) | (refine ⟨by first | exact eq_hop, hK _ _ ?_⟩; clear hK KK) | (refine ⟨by first | exact eq_hop, hK _ (nz ?_)⟩; clear hK KK) | ((repeat refine And.intro (by first | omega | (rw [getD_map_lt (by omega)]; rfl) | (simp; first | done | omega)) ?_); first | (refine hK _ _ ?_; clear hK KK) | (refine hK _ ?_; clear hK KK; try simp only [upd_mk]))) | ((with_reducible first | refine o_nil (hT _ _ ?_) | refine h_nil (hT _ ?_)); clear hT KT) | ((first | refine gd fun AA BB hA hB => ?_ | refine tc fun AA BB hA hB => ?_); first | (refine go ?_; (first | refine hA ?_ | refine hB ?_); clear hA hB AA BB) | (refine go2 ?_ ?_ <;> intro hb <;> (first | refine hA ?_ | refine hB ?_) <;> clear hA hB AA BB <;> (try simp only [hb, decide_true, decide_false]) <;> (try (exfalso; first | (simp at hb; done) | (simp at hb; omega))))) | (with_reducible refine skS ?_; simp only [upd_mk]) | with_reducible refine tdr fun KT hT => ?_ | with_reducible refine bY ?_)
       all_goals clear fx)
      refine k_rnd (k + 1) (imp_keep ?_ ?_ rfl) h (by omega)
      · simp [Keep, mk, scrP, scr, wrapS (show k < 4611686018427387904 by omega)]
      · simp [KeepT, mkT, del, scrT, Ent.scr, scrL, scr, st]
  · obtain rfl : k = L.length := by omega
    have e1 : decide ((L.length : Int) < (L.length : Int)) = false := by simp
    (have fx := (@e1)
     repeat' (first | with_reducible refine go ?_ | with_reducible refine t_region fun KT hT => ?_ | (refine gp fun KK hK => ?_; first | (refine hK _ _ ?_; clear hK KK) | (refine hK _ ?_; clear hK KK; try simp only [upd_mk]) | (refine ⟨by first | exact eq_hop, hK _ _ ?_⟩; clear hK KK) | (refine ⟨by first | exact eq_hop, hK _ (nz ?_)⟩; clear hK KK) | ((repeat refine And.intro (by first | omega | (rw [getD_map_lt (by omega)]; rfl) | (simp; first | done | omega)) ?_); first | (refine hK _ _ ?_; clear hK KK) | (refine hK _ ?_; clear hK KK; try simp only [upd_mk]))) | ((with_reducible first | refine o_nil (hT _ _ ?_) | refine h_nil (hT _ ?_)); clear hT KT) | ((first | refine gd fun AA BB hA hB => ?_ | refine tc fun AA BB hA hB => ?_); first | (refine go ?_; (first | refine hA ?_ | refine hB ?_); clear hA hB AA BB) | (refine go2 ?_ ?_ <;> intro hb <;> (first | refine hA ?_ | refine hB ?_) <;> clear hA hB AA BB <;> (try simp only [hb, decide_true, decide_false]) <;> (try (exfalso; first | (simp at hb; done) | (simp at hb; omega))))) | (with_reducible refine skS ?_; simp only [upd_mk]) | with_reducible refine tdr fun KT hT => ?_ | with_reducible refine bY ?_)
     all_goals clear fx)
    (refine fo [99] ?_; try exact trivial)
    exact ⟨rfl, rfl, by simp⟩

end Go.Proofs.Ytgdldeggoflabaa
