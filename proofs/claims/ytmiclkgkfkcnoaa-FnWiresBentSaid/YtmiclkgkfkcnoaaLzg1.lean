/- The functions of this program, walked by the evaluator: part zg, 1. -/
import Derived.Test.YtmiclkgkfkcnoaaLe1
import Derived.Test.YtmiclkgkfkcnoaaLx2
import Derived.Test.YtmiclkgkfkcnoaaLD
namespace Go.Proofs.Ytmiclkgkfkcnoaa
open Go.RowKit
set_option linter.unusedSimpArgs false
set_option linter.unusedVariables false
set_option maxRecDepth 100000
set_option linter.defProp false
namespace GLzg1
def gx := And.intro (@hopRow.eq_1) (And.intro (@polRow.eq_1) (And.intro (@segRow.eq_1) (And.intro (@intRow.eq_1) (And.intro (@rowLen_ints) (And.intro (@rowLen_nil) (And.intro (@rowLen_cons) (And.intro (@rowLen_append) (And.intro (@lenL_app) (And.intro (@byteRow.eq_1) (And.intro (@rowLen_bytes) (And.intro (@bytesOf_map) (And.intro (@bytesOf_cons) (And.intro (@bytesOf_one) (And.intro (@rowLen_strs) (And.intro (@asRow.eq_1) (And.intro (@lkRow.eq_1) (And.intro (@tpRow.eq_1) (And.intro (@rowLen_hops) (And.intro (@rowLen_ases) (And.intro (@rowLen_links) (And.intro (@bcRow.eq_1) (And.intro (@rowLen_bcs) (@u8Row.eq_1)))))))))))))))))))))))
end GLzg1
open GLzg1
def rdHops (b : List UInt8) (a : Nat) : Nat → Option (List Hp × Nat)
  | 0 => some ([], a)
  | m + 1 => match rdHop b a with
    | none => none
    | some (x, e) => (rdHops b e m).map fun r => (x :: r.1, r.2)
theorem rdHops_len {b : List UInt8} : ∀ {m a : Nat} {l : List Hp} {e : Nat}, rdHops b a m = some (l, e) → l.length = m
  | 0, a, l, e, h => by simp [rdHops] at h; simp [← h.1]
  | m + 1, a, l, e, h => by
    unfold rdHops at h
    split at h
    · cases h
    · rename_i x z hz
      simp only [Option.map_eq_some_iff] at h
      obtain ⟨⟨l', e'⟩, h1, h2⟩ := h
      simp only [Prod.mk.injEq] at h2
      rw [← h2.1, List.length_cons, rdHops_len h1]
theorem decGo_nn {b : List UInt8} : ∀ {m a : Nat} {l : List Int} {e : Nat}, decGo b m a = some (l, e) → ∀ x ∈ l, 0 ≤ x
  | 0, a, l, e, h => by
    simp only [decGo, Option.some.injEq, Prod.mk.injEq] at h
    intro x hx
    rw [← h.1] at hx
    cases hx
  | m + 1, a, l, e, h => by
    unfold decGo at h
    split at h
    · cases h
    · rename_i x z hz
      simp only [Option.map_eq_some_iff] at h
      obtain ⟨⟨l', e'⟩, h1, h2⟩ := h
      simp only [Prod.mk.injEq] at h2
      intro y hy
      rw [← h2.1] at hy
      rcases List.mem_cons.1 hy with e1 | e1
      · subst e1; omega
      · exact decGo_nn h1 y e1
theorem decI_some {b : List UInt8} {i : Int} {m : Nat} {l : List Int} {e : Nat} (h : decI b i m = some (l, e)) : l.length = m ∧ ∀ x ∈ l, 0 ≤ x := by
  unfold decI at h
  split at h
  · exact ⟨decGo_len h, decGo_nn h⟩
  · cases h
/-- what a segment's bytes say -/
def rdSeg (b : List UInt8) (i : Int) : Option (Sg × Nat) :=
  match decI b i 3 with
  | some ([ts, be, n], e) => if n ≤ 8 then (match rdHops b e n.toNat with
    | some (H, z) => if encodable ⟨ts, be, H⟩ then some (⟨ts, be, H⟩, z) else none
    | none => none) else none
  | _ => none
theorem hop_rows_app (H : List Hp) (h : Hp) : H.map hopRow ++ [hopRow h] = (H ++ [h]).map hopRow := by simp
set_option maxHeartbeats 4000000 in
theorem rdHs_i (b : List UInt8) (a m : Nat) (hb : b.length ≤ 1073741824) (hm : m ≤ 8) (H : List Hp) (z : Nat) (hs : rdHops b a m = some (H, z)) : ACall Try.prog 154 [.sl (b.map byteRow), .int .i64 a, .int .i64 m] (.tup [.fs 0, .int .i64 z, .bool true]) [H.map hopRow] := by
  have g0 : decide ((8 : Int) < (m : Int)) = false := decide_eq_false (by omega)
  refine acall_mk Try.func154 rfl Try.ntmps154 Try.results154 (by kernel_rfl) (by simp) ?_
  simp only [args, Nat.zero_add, Nat.reduceAdd]
  (have fx := (@g0)
   repeat' (first | with_reducible refine go ?_ | with_reducible refine t_region fun KT hT => ?_ | (refine gp fun KK hK => ?_; first | (refine hK _ _ ?_; clear hK KK) | (refine hK _ ?_; clear hK KK; try simp only [upd_mk]) | (refine ⟨by first | exact eq_hop, hK _ _ ?_⟩; clear hK KK) | (refine ⟨by first | exact eq_hop, hK _ (nz ?_)⟩; clear hK KK) | ((repeat refine And.intro (by first | omega | (rw [getD_map_lt (by omega)]; rfl) | (simp; first | done | omega)) ?_); first | (refine hK _ _ ?_; clear hK KK) | (refine hK _ ?_; clear hK KK; try simp only [upd_mk]))) | ((with_reducible first | refine o_nil (hT _ _ ?_) | refine h_nil (hT _ ?_)); clear hT KT) | ((first | refine gd fun AA BB hA hB => ?_ | refine tc fun AA BB hA hB => ?_); first | (refine go ?_; (first | refine hA ?_ | refine hB ?_); clear hA hB AA BB) | (refine go2 ?_ ?_ <;> intro hb <;> (first | refine hA ?_ | refine hB ?_) <;> clear hA hB AA BB <;> (try simp only [hb, decide_true, decide_false]) <;> (try (exfalso; first | (simp at hb; done) | (simp at hb; omega))))) | (with_reducible refine skS ?_; simp only [upd_mk]) | with_reducible refine tdr fun KT hT => ?_ | with_reducible refine bY ?_)
   all_goals clear fx)
  refine t_loop (fun q : Nat × Nat × List Hp => [(0, .sl (b.map byteRow)), (1, .int .i64 (q.2.1 : Int)), (2, .int .i64 (m : Int)), (9, .fs 99), (10, .int .i64 (q.1 : Int))]) (fun q => [(99, .row (q.2.2.map hopRow))]) (fun q => q.1 ≤ m ∧ q.2.2.length = q.1 ∧ rdHops b a m = (rdHops b q.2.1 (m - q.1)).map fun r => (q.2.2 ++ r.1, r.2)) (fun q => m - q.1) (0, a, []) (imp_nil 9 99 rfl rfl (imp_keep (by simp [Keep, mk]) (by simp [KeepT, mkT]) rfl)) ⟨by simp, rfl, by simp⟩ ?_
  rintro ⟨k, z1, acc⟩ ⟨hk, hl, hr⟩
  simp only at hk hl hr
  rw [hs] at hr
  rcases Nat.lt_or_ge k m with h | h
  · have e1 : decide ((k : Int) < (m : Int)) = true := decide_eq_true (by omega)
    rw [show m - k = (m - (k + 1)) + 1 by omega, rdHops] at hr
    have c := rdHop_i b (z1 : Int) hb
    cases hv : rdHop b (z1 : Int) with
    | none =>
      rw [hv] at c hr
      simp only [rdHopD] at c
      cases hr
    | some p =>
      obtain ⟨v, w⟩ := p
      rw [hv] at c hr
      simp only [rdHopD] at c
      simp only at hr
      have wk := wrapS (show k < 4611686018427387904 by omega)
      have ha := hop_rows_app acc v
      simp only [hopRow] at ha
      (have fx := And.intro (@e1) (And.intro (@hl) (And.intro (@wk) (@ha)))
       repeat' (first | with_reducible refine go ?_ | with_reducible refine t_region fun KT hT => ?_ | (refine gp fun KK hK => ?_; first | (refine hK _ _ ?_; clear hK KK) | (refine hK _ ?_; clear hK KK; try simp only [upd_mk]) | ((with_reducible first | refine .inl ⟨_, _, ⟨c, rfl, csq⟩, hK _ _ (nz ?_)⟩ | refine ⟨_, ⟨c, rfl, rfl, csq⟩, hK _ (nz ?_)⟩); clear hK KK) | (refine ⟨by first | exact eq_hop, hK _ _ ?_⟩; clear hK KK) | (refine ⟨by first | exact eq_hop, hK _ (nz ?_)⟩; clear hK KK) | ((repeat refine And.intro (by first | omega | (rw [getD_map_lt (by omega)]; rfl) | (simp; first | done | omega)) ?_); first | (refine hK _ _ ?_; clear hK KK) | (refine hK _ ?_; clear hK KK; try simp only [upd_mk]))) | ((with_reducible first | refine o_nil (hT _ _ ?_) | refine h_nil (hT _ ?_)); clear hT KT) | ((first | refine gd fun AA BB hA hB => ?_ | refine tc fun AA BB hA hB => ?_); first | (refine go ?_; (first | refine hA ?_ | refine hB ?_); clear hA hB AA BB) | (refine go2 ?_ ?_ <;> intro hb <;> (first | refine hA ?_ | refine hB ?_) <;> clear hA hB AA BB <;> (try simp only [hb, decide_true, decide_false]) <;> (try (exfalso; first | (simp at hb; done) | (simp at hb; omega))))) | (with_reducible refine skS ?_; simp only [upd_mk]) | with_reducible refine tdr fun KT hT => ?_ | with_reducible refine bY ?_)
       all_goals clear fx)
      refine k_rnd (k + 1, w, acc ++ [v]) (imp_drop 11 (imp_drop 32 (imp_keep ?_ ?_ rfl))) ⟨h, by simp [hl], ?_⟩ (by simp only; omega)
      · simp [Keep, mk, scrP, scr]
      · simp [KeepT, mkT, del, scrT, Ent.scr, scrL, scr]
      · rw [hs, hr, Option.map_map]
        congr 1
        funext r
        simp
  · obtain rfl : k = m := by omega
    have e1 : decide ((k : Int) < (k : Int)) = false := by simp
    rw [Nat.sub_self, rdHops] at hr
    simp only [Option.map_some, List.append_nil, Option.some.injEq, Prod.mk.injEq] at hr
    obtain ⟨rfl, rfl⟩ := hr
    (have fx := (@e1)
     repeat' (first | with_reducible refine go ?_ | with_reducible refine t_region fun KT hT => ?_ | (refine gp fun KK hK => ?_; first | (refine hK _ _ ?_; clear hK KK) | (refine hK _ ?_; clear hK KK; try simp only [upd_mk]) | (refine ⟨by first | exact eq_hop, hK _ _ ?_⟩; clear hK KK) | (refine ⟨by first | exact eq_hop, hK _ (nz ?_)⟩; clear hK KK) | ((repeat refine And.intro (by first | omega | (rw [getD_map_lt (by omega)]; rfl) | (simp; first | done | omega)) ?_); first | (refine hK _ _ ?_; clear hK KK) | (refine hK _ ?_; clear hK KK; try simp only [upd_mk]))) | ((with_reducible first | refine o_nil (hT _ _ ?_) | refine h_nil (hT _ ?_)); clear hT KT) | ((first | refine gd fun AA BB hA hB => ?_ | refine tc fun AA BB hA hB => ?_); first | (refine go ?_; (first | refine hA ?_ | refine hB ?_); clear hA hB AA BB) | (refine go2 ?_ ?_ <;> intro hb <;> (first | refine hA ?_ | refine hB ?_) <;> clear hA hB AA BB <;> (try simp only [hb, decide_true, decide_false]) <;> (try (exfalso; first | (simp at hb; done) | (simp at hb; omega))))) | (with_reducible refine skS ?_; simp only [upd_mk]) | with_reducible refine tdr fun KT hT => ?_ | with_reducible refine bY ?_)
     all_goals clear fx)
    (refine fo [99] ?_; try exact trivial)
    exact ⟨rfl, rfl, by simp⟩

set_option maxHeartbeats 4000000 in
theorem rdHs0_i (b : List UInt8) (a m : Nat) (hb : b.length ≤ 1073741824) (hm : m ≤ 8) (hs : rdHops b a m = none) : ACall Try.prog 154 [.sl (b.map byteRow), .int .i64 a, .int .i64 m] (.tup [.nl, .int .i64 0, .bool false]) [] := by
  have g0 : decide ((8 : Int) < (m : Int)) = false := decide_eq_false (by omega)
  refine acall_mk Try.func154 rfl Try.ntmps154 Try.results154 (by kernel_rfl) (by simp) ?_
  simp only [args, Nat.zero_add, Nat.reduceAdd]
  (have fx := (@g0)
   repeat' (first | with_reducible refine go ?_ | with_reducible refine t_region fun KT hT => ?_ | (refine gp fun KK hK => ?_; first | (refine hK _ _ ?_; clear hK KK) | (refine hK _ ?_; clear hK KK; try simp only [upd_mk]) | (refine ⟨by first | exact eq_hop, hK _ _ ?_⟩; clear hK KK) | (refine ⟨by first | exact eq_hop, hK _ (nz ?_)⟩; clear hK KK) | ((repeat refine And.intro (by first | omega | (rw [getD_map_lt (by omega)]; rfl) | (simp; first | done | omega)) ?_); first | (refine hK _ _ ?_; clear hK KK) | (refine hK _ ?_; clear hK KK; try simp only [upd_mk]))) | ((with_reducible first | refine o_nil (hT _ _ ?_) | refine h_nil (hT _ ?_)); clear hT KT) | ((first | refine gd fun AA BB hA hB => ?_ | refine tc fun AA BB hA hB => ?_); first | (refine go ?_; (first | refine hA ?_ | refine hB ?_); clear hA hB AA BB) | (refine go2 ?_ ?_ <;> intro hb <;> (first | refine hA ?_ | refine hB ?_) <;> clear hA hB AA BB <;> (try simp only [hb, decide_true, decide_false]) <;> (try (exfalso; first | (simp at hb; done) | (simp at hb; omega))))) | (with_reducible refine skS ?_; simp only [upd_mk]) | with_reducible refine tdr fun KT hT => ?_ | with_reducible refine bY ?_)
   all_goals clear fx)
  refine t_loop (fun q : Nat × Nat × List Hp => [(0, .sl (b.map byteRow)), (1, .int .i64 (q.2.1 : Int)), (2, .int .i64 (m : Int)), (9, .fs 99), (10, .int .i64 (q.1 : Int))]) (fun q => [(99, .row (q.2.2.map hopRow))]) (fun q => q.1 ≤ m ∧ q.2.2.length = q.1 ∧ rdHops b a m = (rdHops b q.2.1 (m - q.1)).map fun r => (q.2.2 ++ r.1, r.2)) (fun q => m - q.1) (0, a, []) (imp_nil 9 99 rfl rfl (imp_keep (by simp [Keep, mk]) (by simp [KeepT, mkT]) rfl)) ⟨by simp, rfl, by simp⟩ ?_
  rintro ⟨k, z1, acc⟩ ⟨hk, hl, hr⟩
  simp only at hk hl hr
  rw [hs] at hr
  rcases Nat.lt_or_ge k m with h | h
  · have e1 : decide ((k : Int) < (m : Int)) = true := decide_eq_true (by omega)
    rw [show m - k = (m - (k + 1)) + 1 by omega, rdHops] at hr
    have c := rdHop_i b (z1 : Int) hb
    cases hv : rdHop b (z1 : Int) with
    | none =>
      rw [hv] at c hr
      simp only [rdHopD] at c
      (have fx := (@e1)
       repeat' (first | with_reducible refine go ?_ | with_reducible refine t_region fun KT hT => ?_ | (refine gp fun KK hK => ?_; first | (refine hK _ _ ?_; clear hK KK) | (refine hK _ ?_; clear hK KK; try simp only [upd_mk]) | ((with_reducible first | refine .inl ⟨_, _, ⟨c, rfl, csq⟩, hK _ _ (nz ?_)⟩ | refine ⟨_, ⟨c, rfl, rfl, csq⟩, hK _ (nz ?_)⟩); clear hK KK) | (refine ⟨by first | exact eq_hop, hK _ _ ?_⟩; clear hK KK) | (refine ⟨by first | exact eq_hop, hK _ (nz ?_)⟩; clear hK KK) | ((repeat refine And.intro (by first | omega | (rw [getD_map_lt (by omega)]; rfl) | (simp; first | done | omega)) ?_); first | (refine hK _ _ ?_; clear hK KK) | (refine hK _ ?_; clear hK KK; try simp only [upd_mk]))) | ((with_reducible first | refine o_nil (hT _ _ ?_) | refine h_nil (hT _ ?_)); clear hT KT) | ((first | refine gd fun AA BB hA hB => ?_ | refine tc fun AA BB hA hB => ?_); first | (refine go ?_; (first | refine hA ?_ | refine hB ?_); clear hA hB AA BB) | (refine go2 ?_ ?_ <;> intro hb <;> (first | refine hA ?_ | refine hB ?_) <;> clear hA hB AA BB <;> (try simp only [hb, decide_true, decide_false]) <;> (try (exfalso; first | (simp at hb; done) | (simp at hb; omega))))) | (with_reducible refine skS ?_; simp only [upd_mk]) | with_reducible refine tdr fun KT hT => ?_ | with_reducible refine bY ?_)
       all_goals clear fx)
      (refine fo [] ?_; try exact trivial)
      exact ⟨rfl, rfl, by simp⟩
    | some p =>
      obtain ⟨v, w⟩ := p
      rw [hv] at c hr
      simp only [rdHopD] at c
      simp only at hr
      have wk := wrapS (show k < 4611686018427387904 by omega)
      have ha := hop_rows_app acc v
      simp only [hopRow] at ha
      (have fx := And.intro (@e1) (And.intro (@hl) (And.intro (@wk) (@ha)))
       repeat' (first | with_reducible refine go ?_ | with_reducible refine t_region fun KT hT => ?_ | (refine gp fun KK hK => ?_; first | (refine hK _ _ ?_; clear hK KK) | (refine hK _ ?_; clear hK KK; try simp only [upd_mk]) | ((with_reducible first | refine .inl ⟨_, _, ⟨c, rfl, csq⟩, hK _ _ (nz ?_)⟩ | refine ⟨_, ⟨c, rfl, rfl, csq⟩, hK _ (nz ?_)⟩); clear hK KK) | (refine ⟨by first | exact eq_hop, hK _ _ ?_⟩; clear hK KK) | (refine ⟨by first | exact eq_hop, hK _ (nz ?_)⟩; clear hK KK) | ((repeat refine And.intro (by first | omega | (rw [getD_map_lt (by omega)]; rfl) | (simp; first | done | omega)) ?_); first | (refine hK _ _ ?_; clear hK KK) | (refine hK _ ?_; clear hK KK; try simp only [upd_mk]))) | ((with_reducible first | refine o_nil (hT _ _ ?_) | refine h_nil (hT _ ?_)); clear hT KT) | ((first | refine gd fun AA BB hA hB => ?_ | refine tc fun AA BB hA hB => ?_); first | (refine go ?_; (first | refine hA ?_ | refine hB ?_); clear hA hB AA BB) | (refine go2 ?_ ?_ <;> intro hb <;> (first | refine hA ?_ | refine hB ?_) <;> clear hA hB AA BB <;> (try simp only [hb, decide_true, decide_false]) <;> (try (exfalso; first | (simp at hb; done) | (simp at hb; omega))))) | (with_reducible refine skS ?_; simp only [upd_mk]) | with_reducible refine tdr fun KT hT => ?_ | with_reducible refine bY ?_)
       all_goals clear fx)
      refine k_rnd (k + 1, w, acc ++ [v]) (imp_drop 11 (imp_drop 32 (imp_keep ?_ ?_ rfl))) ⟨h, by simp [hl], ?_⟩ (by simp only; omega)
      · simp [Keep, mk, scrP, scr]
      · simp [KeepT, mkT, del, scrT, Ent.scr, scrL, scr]
      · rw [hs, hr, Option.map_map]
        congr 1
        funext r
        simp
  · obtain rfl : k = m := by omega
    have e1 : decide ((k : Int) < (k : Int)) = false := by simp
    rw [Nat.sub_self, rdHops] at hr
    cases hr

theorem rdHsB_i (b : List UInt8) (a : Nat) (m : Int) (hm : 8 < m) : ACall Try.prog 154 [.sl (b.map byteRow), .int .i64 a, .int .i64 m] (.tup [.nl, .int .i64 0, .bool false]) [] := by
  have g0 : decide ((8 : Int) < m) = true := decide_eq_true (by omega)
  refine acall_mk Try.func154 rfl Try.ntmps154 Try.results154 (by kernel_rfl) (by simp) ?_
  simp only [args, Nat.zero_add, Nat.reduceAdd]
  (have fx := (@g0)
   repeat' (first | with_reducible refine go ?_ | with_reducible refine t_region fun KT hT => ?_ | (refine gp fun KK hK => ?_; first | (refine hK _ _ ?_; clear hK KK) | (refine hK _ ?_; clear hK KK; try simp only [upd_mk]) | (refine ⟨by first | exact eq_hop, hK _ _ ?_⟩; clear hK KK) | (refine ⟨by first | exact eq_hop, hK _ (nz ?_)⟩; clear hK KK) | ((repeat refine And.intro (by first | omega | (rw [getD_map_lt (by omega)]; rfl) | (simp; first | done | omega)) ?_); first | (refine hK _ _ ?_; clear hK KK) | (refine hK _ ?_; clear hK KK; try simp only [upd_mk]))) | ((with_reducible first | refine o_nil (hT _ _ ?_) | refine h_nil (hT _ ?_)); clear hT KT) | ((first | refine gd fun AA BB hA hB => ?_ | refine tc fun AA BB hA hB => ?_); first | (refine go ?_; (first | refine hA ?_ | refine hB ?_); clear hA hB AA BB) | (refine go2 ?_ ?_ <;> intro hb <;> (first | refine hA ?_ | refine hB ?_) <;> clear hA hB AA BB <;> (try simp only [hb, decide_true, decide_false]) <;> (try (exfalso; first | (simp at hb; done) | (simp at hb; omega))))) | (with_reducible refine skS ?_; simp only [upd_mk]) | with_reducible refine tdr fun KT hT => ?_ | with_reducible refine bY ?_)
   all_goals clear fx)
  (refine fo [] ?_; try exact trivial)
  exact ⟨rfl, rfl, by simp⟩

set_option maxHeartbeats 4000000 in
theorem rdSeg_i (b : List UInt8) (i : Int) (hb : b.length ≤ 1073741824) (s : Sg) (z : Nat) (hs : rdSeg b i = some (s, z)) : ACall Try.prog 63 [.sl (b.map byteRow), .int .i64 i] (.tup [.agg [.int .i64 s.ts, .int .i64 s.beta, .fs 0], .int .i64 z, .bool true]) [s.hops.map hopRow] := by
  have c := decI_i b i 3 hb (by omega)
  unfold rdSeg at hs
  cases hd : decI b i 3 with
  | none =>
    rw [hd] at c hs
    simp only [decD] at c
    simp only at hs
    cases hs
  | some p =>
    obtain ⟨l, e⟩ := p
    obtain ⟨hl, hnn⟩ := decI_some hd
    match l, hl with
    | [ts, be, n], _ =>
      rw [hd] at c hs
      simp only [decD, List.map_cons, List.map_nil] at c
      simp only at hs
      have c' : ACall Try.prog 153 [.sl (b.map byteRow), .int .i64 i, .int .i64 3] (.tup [.sl [intRow ts, intRow be, intRow n], .int .i64 e, .bool true]) [] := c
      obtain ⟨m, rfl⟩ : ∃ m : Nat, n = (m : Int) := ⟨n.toNat, by have := hnn n (by simp); omega⟩
      simp only [Int.toNat_natCast] at hs
      clear c hd hnn
      rcases Nat.lt_or_ge 8 m with h8 | h8
      · rw [if_neg (by omega)] at hs
        cases hs
      · rw [if_pos (by omega)] at hs
        cases hh : rdHops b e m with
        | none =>
          rw [hh] at hs
          cases hs
        | some q =>
          obtain ⟨H, z1⟩ := q
          rw [hh] at hs
          simp only at hs
          have hH := rdHops_len hh
          have ce := enc_i ⟨ts, be, H⟩ (by simp only; omega)
          have ch := rdHs_i b e m hb h8 H z1 hh
          simp only [segRow] at ce
          rcases Bool.eq_false_or_eq_true (encodable ⟨ts, be, H⟩) with q1 | q1
          · rw [if_pos q1] at hs
            rw [q1] at ce
            simp only [Option.some.injEq, Prod.mk.injEq] at hs
            obtain ⟨rfl, rfl⟩ := hs
            refine acall_mk Try.func63 rfl Try.ntmps63 Try.results63 (by kernel_rfl) (by simp) ?_
            simp only [args, Nat.zero_add, Nat.reduceAdd]
            repeat' (first | with_reducible refine go ?_ | with_reducible refine t_region fun KT hT => ?_ | (refine kd 0 ?_; refine g_nil ?_; simp only [realS_mk, realM_mk, pvS, pv, List.nil_append, List.cons_append]; try (refine hT _ _ ?_; clear hT KT)) | (refine kd 1 ?_; refine g_alloc (by first | exact congrArg TI.zero ti3 | exact congrArg TI.zero ti31 | exact congrArg TI.zero ti107) (by simp) (by rfl) (by rfl) (by simp) (by decide) rfl rfl rfl ?_) | (refine kd 2 ?_; refine g_store rfl rfl (by simp) (by decide) fun KK hK => ?_; simp only [pv, stp, hv, qv, ev, cD, scr, scrL, Ent.scr, flat, one, binQ, ldQ, storeQ, lay, Nat.reduceLT, Nat.reduceLeDiff, Nat.reduceAdd, Nat.reduceEqDiff, Nat.reduceMul, Nat.reduceSub, reduceIte, reduceCtorEq, fillQ, bne_iff_ne, Nat.reduceBNe, Nat.reduceBEq, rowsOf, cloL, clo, exists_eq_left', exists_and_left, appendQ, partsQ, Int.cast_ofNat_Int, Int.reduceBEq, Int.reduceBNe, Int.reduceLT, Int.reduceLE, Int.reduceEq, Int.reduceNe, Int.reduceAdd, Int.reduceSub, Int.reduceNeg, Int.reduceToNat, decide_true, decide_false, ne_eq, not_false_eq_true, true_and, and_true, Nat.add_zero, Nat.zero_add, Nat.not_lt_zero, Bool.not_true, Bool.not_false, Int.le_refl, bA, bB, callQ, viewL, view, noFsL, noFs, intsOf, Option.map_some, bT, gx, fx]; refine hK _ ?_; clear hK KK; try simp only [del_cons, del_nil, upd_mk, Nat.reduceEqDiff, reduceIte]) | (refine kd 3 ?_; (first | refine g_bcall rfl (by decide) rfl (by first | exact c' | (simp only [stp, hv, qv, ev, cD, scr, scrL, Ent.scr, flat, one, binQ, ldQ, storeQ, lay, Nat.reduceLT, Nat.reduceLeDiff, Nat.reduceAdd, Nat.reduceEqDiff, Nat.reduceMul, Nat.reduceSub, reduceIte, reduceCtorEq, fillQ, bne_iff_ne, Nat.reduceBNe, Nat.reduceBEq, rowsOf, cloL, clo, exists_eq_left', exists_and_left, appendQ, partsQ, Int.cast_ofNat_Int, Int.reduceBEq, Int.reduceBNe, Int.reduceLT, Int.reduceLE, Int.reduceEq, Int.reduceNe, Int.reduceAdd, Int.reduceSub, Int.reduceNeg, Int.reduceToNat, decide_true, decide_false, ne_eq, not_false_eq_true, true_and, and_true, Nat.add_zero, Nat.zero_add, Nat.not_lt_zero, Bool.not_true, Bool.not_false, Int.le_refl, bA, bB, callQ, viewL, view, noFsL, noFs, intsOf, Option.map_some, bT, gx, fx]; exact c')) (by rfl) csq (by intro d hd; (repeat (rcases List.mem_cons.1 hd with rfl | hd; · exact ⟨⟨rfl, rfl⟩, rfl, rfl⟩)); cases hd) (by first | exact yA_nil | (intro i e hi; simp only [mkT] at hi; (repeat' split at hi) <;> simp_all)) ?_ | refine g_bcall rfl (by decide) rfl (by first | exact ch | (simp only [stp, hv, qv, ev, cD, scr, scrL, Ent.scr, flat, one, binQ, ldQ, storeQ, lay, Nat.reduceLT, Nat.reduceLeDiff, Nat.reduceAdd, Nat.reduceEqDiff, Nat.reduceMul, Nat.reduceSub, reduceIte, reduceCtorEq, fillQ, bne_iff_ne, Nat.reduceBNe, Nat.reduceBEq, rowsOf, cloL, clo, exists_eq_left', exists_and_left, appendQ, partsQ, Int.cast_ofNat_Int, Int.reduceBEq, Int.reduceBNe, Int.reduceLT, Int.reduceLE, Int.reduceEq, Int.reduceNe, Int.reduceAdd, Int.reduceSub, Int.reduceNeg, Int.reduceToNat, decide_true, decide_false, ne_eq, not_false_eq_true, true_and, and_true, Nat.add_zero, Nat.zero_add, Nat.not_lt_zero, Bool.not_true, Bool.not_false, Int.le_refl, bA, bB, callQ, viewL, view, noFsL, noFs, intsOf, Option.map_some, bT, gx, fx]; exact ch)) (by rfl) csq (by intro d hd; (repeat (rcases List.mem_cons.1 hd with rfl | hd; · exact ⟨⟨rfl, rfl⟩, rfl, rfl⟩)); cases hd) (by first | exact yA_nil | (intro i e hi; simp only [mkT] at hi; (repeat' split at hi) <;> simp_all)) ?_ | refine g_bcall rfl (by decide) rfl (by first | exact ce | (simp only [stp, hv, qv, ev, cD, scr, scrL, Ent.scr, flat, one, binQ, ldQ, storeQ, lay, Nat.reduceLT, Nat.reduceLeDiff, Nat.reduceAdd, Nat.reduceEqDiff, Nat.reduceMul, Nat.reduceSub, reduceIte, reduceCtorEq, fillQ, bne_iff_ne, Nat.reduceBNe, Nat.reduceBEq, rowsOf, cloL, clo, exists_eq_left', exists_and_left, appendQ, partsQ, Int.cast_ofNat_Int, Int.reduceBEq, Int.reduceBNe, Int.reduceLT, Int.reduceLE, Int.reduceEq, Int.reduceNe, Int.reduceAdd, Int.reduceSub, Int.reduceNeg, Int.reduceToNat, decide_true, decide_false, ne_eq, not_false_eq_true, true_and, and_true, Nat.add_zero, Nat.zero_add, Nat.not_lt_zero, Bool.not_true, Bool.not_false, Int.le_refl, bA, bB, callQ, viewL, view, noFsL, noFs, intsOf, Option.map_some, bT, gx, fx]; exact ce)) (by rfl) csq (by intro d hd; (repeat (rcases List.mem_cons.1 hd with rfl | hd; · exact ⟨⟨rfl, rfl⟩, rfl, rfl⟩)); cases hd) (by first | exact yA_nil | (intro i e hi; simp only [mkT] at hi; (repeat' split at hi) <;> simp_all)) ?_); simp only [addS, addM, ren, renL, rid, scr, scrL, Ent.scr, Nat.reduceMul, Nat.reduceAdd, Nat.reduceEqDiff, reduceIte, bA]) | (refine gp fun KK hK => ?_; first | (refine hK _ _ ?_; clear hK KK) | (refine hK _ ?_; clear hK KK; try simp only [upd_mk]) | ((with_reducible first | refine .inl ⟨_, _, ⟨c', rfl, csq⟩, hK _ _ (nz ?_)⟩ | refine .inl ⟨_, _, ⟨ch, rfl, csq⟩, hK _ _ (nz ?_)⟩ | refine .inl ⟨_, _, ⟨ce, rfl, csq⟩, hK _ _ (nz ?_)⟩ | refine ⟨_, ⟨c', rfl, rfl, csq⟩, hK _ (nz ?_)⟩ | refine ⟨_, ⟨ch, rfl, rfl, csq⟩, hK _ (nz ?_)⟩ | refine ⟨_, ⟨ce, rfl, rfl, csq⟩, hK _ (nz ?_)⟩); clear hK KK) | (refine ⟨by first | exact eq_hop, hK _ _ ?_⟩; clear hK KK) | (refine ⟨by first | exact eq_hop, hK _ (nz ?_)⟩; clear hK KK) | ((repeat refine And.intro (by first | omega | (rw [getD_map_lt (by omega)]; rfl) | (simp; first | done | omega)) ?_); first | (refine hK _ _ ?_; clear hK KK) | (refine hK _ ?_; clear hK KK; try simp only [upd_mk]))) | ((with_reducible first | refine o_nil (hT _ _ ?_) | refine h_nil (hT _ ?_)); clear hT KT) | ((first | refine gd fun AA BB hA hB => ?_ | refine tc fun AA BB hA hB => ?_); first | (refine go ?_; (first | refine hA ?_ | refine hB ?_); clear hA hB AA BB) | (refine go2 ?_ ?_ <;> intro hb <;> (first | refine hA ?_ | refine hB ?_) <;> clear hA hB AA BB <;> (try simp only [hb, decide_true, decide_false]) <;> (try (exfalso; first | (simp at hb; done) | (simp at hb; omega))))) | (with_reducible refine skS ?_; simp only [upd_mk]) | (refine t_drawG (id := 5) [] [11] (by kernel_rfl) (by decide) (by kernel_rfl) fun KT hT => ?_) | with_reducible refine tdr fun KT hT => ?_ | with_reducible refine bY ?_)
            (refine fo [1028] ?_; try exact trivial)
            exact ⟨rfl, rfl, by simp⟩
          · rw [if_neg (by simp [q1])] at hs
            rw [q1] at ce
            cases hs

set_option maxHeartbeats 4000000 in
theorem rdSeg0_i (b : List UInt8) (i : Int) (hb : b.length ≤ 1073741824) (hs : rdSeg b i = none) : ACall Try.prog 63 [.sl (b.map byteRow), .int .i64 i] (.tup [.agg [.int .i64 0, .int .i64 0, .nl], .int .i64 0, .bool false]) [] := by
  have c := decI_i b i 3 hb (by omega)
  unfold rdSeg at hs
  cases hd : decI b i 3 with
  | none =>
    rw [hd] at c hs
    simp only [decD] at c
    simp only at hs
    have c' : ACall Try.prog 153 [.sl (b.map byteRow), .int .i64 i, .int .i64 3] (.tup [.sl [], .int .i64 0, .bool false]) [] := c
    refine acall_mk Try.func63 rfl Try.ntmps63 Try.results63 (by kernel_rfl) (by simp) ?_
    simp only [args, Nat.zero_add, Nat.reduceAdd]
    repeat' (first | with_reducible refine go ?_ | with_reducible refine t_region fun KT hT => ?_ | (refine gp fun KK hK => ?_; first | (refine hK _ _ ?_; clear hK KK) | (refine hK _ ?_; clear hK KK; try simp only [upd_mk]) | ((with_reducible first | refine .inl ⟨_, _, ⟨c', rfl, csq⟩, hK _ _ (nz ?_)⟩ | refine ⟨_, ⟨c', rfl, rfl, csq⟩, hK _ (nz ?_)⟩); clear hK KK) | (refine ⟨by first | exact eq_hop, hK _ _ ?_⟩; clear hK KK) | (refine ⟨by first | exact eq_hop, hK _ (nz ?_)⟩; clear hK KK) | ((repeat refine And.intro (by first | omega | (rw [getD_map_lt (by omega)]; rfl) | (simp; first | done | omega)) ?_); first | (refine hK _ _ ?_; clear hK KK) | (refine hK _ ?_; clear hK KK; try simp only [upd_mk]))) | ((with_reducible first | refine o_nil (hT _ _ ?_) | refine h_nil (hT _ ?_)); clear hT KT) | ((first | refine gd fun AA BB hA hB => ?_ | refine tc fun AA BB hA hB => ?_); first | (refine go ?_; (first | refine hA ?_ | refine hB ?_); clear hA hB AA BB) | (refine go2 ?_ ?_ <;> intro hb <;> (first | refine hA ?_ | refine hB ?_) <;> clear hA hB AA BB <;> (try simp only [hb, decide_true, decide_false]) <;> (try (exfalso; first | (simp at hb; done) | (simp at hb; omega))))) | (with_reducible refine skS ?_; simp only [upd_mk]) | with_reducible refine tdr fun KT hT => ?_ | with_reducible refine bY ?_)
    (refine fo [] ?_; try exact trivial)
    exact ⟨rfl, rfl, by simp⟩
  | some p =>
    obtain ⟨l, e⟩ := p
    obtain ⟨hl, hnn⟩ := decI_some hd
    match l, hl with
    | [ts, be, n], _ =>
      rw [hd] at c hs
      simp only [decD, List.map_cons, List.map_nil] at c
      simp only at hs
      have c' : ACall Try.prog 153 [.sl (b.map byteRow), .int .i64 i, .int .i64 3] (.tup [.sl [intRow ts, intRow be, intRow n], .int .i64 e, .bool true]) [] := c
      obtain ⟨m, rfl⟩ : ∃ m : Nat, n = (m : Int) := ⟨n.toNat, by have := hnn n (by simp); omega⟩
      simp only [Int.toNat_natCast] at hs
      clear c hd hnn
      rcases Nat.lt_or_ge 8 m with h8 | h8
      · rw [if_neg (by omega)] at hs
        refine acall_mk Try.func63 rfl Try.ntmps63 Try.results63 (by kernel_rfl) (by simp) ?_
        simp only [args, Nat.zero_add, Nat.reduceAdd]
        repeat' (first | with_reducible refine go ?_ | with_reducible refine t_region fun KT hT => ?_ | (refine kd 0 ?_; refine g_nil ?_; simp only [realS_mk, realM_mk, pvS, pv, List.nil_append, List.cons_append]; try (refine hT _ _ ?_; clear hT KT)) | (refine kd 1 ?_; refine g_alloc (by first | exact congrArg TI.zero ti3 | exact congrArg TI.zero ti31 | exact congrArg TI.zero ti107) (by simp) (by rfl) (by rfl) (by simp) (by decide) rfl rfl rfl ?_) | (refine kd 2 ?_; refine g_store rfl rfl (by simp) (by decide) fun KK hK => ?_; simp only [pv, stp, hv, qv, ev, cD, scr, scrL, Ent.scr, flat, one, binQ, ldQ, storeQ, lay, Nat.reduceLT, Nat.reduceLeDiff, Nat.reduceAdd, Nat.reduceEqDiff, Nat.reduceMul, Nat.reduceSub, reduceIte, reduceCtorEq, fillQ, bne_iff_ne, Nat.reduceBNe, Nat.reduceBEq, rowsOf, cloL, clo, exists_eq_left', exists_and_left, appendQ, partsQ, Int.cast_ofNat_Int, Int.reduceBEq, Int.reduceBNe, Int.reduceLT, Int.reduceLE, Int.reduceEq, Int.reduceNe, Int.reduceAdd, Int.reduceSub, Int.reduceNeg, Int.reduceToNat, decide_true, decide_false, ne_eq, not_false_eq_true, true_and, and_true, Nat.add_zero, Nat.zero_add, Nat.not_lt_zero, Bool.not_true, Bool.not_false, Int.le_refl, bA, bB, callQ, viewL, view, noFsL, noFs, intsOf, Option.map_some, bT, gx, fx]; refine hK _ ?_; clear hK KK; try simp only [del_cons, del_nil, upd_mk, Nat.reduceEqDiff, reduceIte]) | (refine kd 3 ?_; (first | refine g_bcall rfl (by decide) rfl (by first | exact c' | (simp only [stp, hv, qv, ev, cD, scr, scrL, Ent.scr, flat, one, binQ, ldQ, storeQ, lay, Nat.reduceLT, Nat.reduceLeDiff, Nat.reduceAdd, Nat.reduceEqDiff, Nat.reduceMul, Nat.reduceSub, reduceIte, reduceCtorEq, fillQ, bne_iff_ne, Nat.reduceBNe, Nat.reduceBEq, rowsOf, cloL, clo, exists_eq_left', exists_and_left, appendQ, partsQ, Int.cast_ofNat_Int, Int.reduceBEq, Int.reduceBNe, Int.reduceLT, Int.reduceLE, Int.reduceEq, Int.reduceNe, Int.reduceAdd, Int.reduceSub, Int.reduceNeg, Int.reduceToNat, decide_true, decide_false, ne_eq, not_false_eq_true, true_and, and_true, Nat.add_zero, Nat.zero_add, Nat.not_lt_zero, Bool.not_true, Bool.not_false, Int.le_refl, bA, bB, callQ, viewL, view, noFsL, noFs, intsOf, Option.map_some, bT, gx, fx]; exact c')) (by rfl) csq (by intro d hd; (repeat (rcases List.mem_cons.1 hd with rfl | hd; · exact ⟨⟨rfl, rfl⟩, rfl, rfl⟩)); cases hd) (by first | exact yA_nil | (intro i e hi; simp only [mkT] at hi; (repeat' split at hi) <;> simp_all)) ?_ | refine g_bcall rfl (by decide) rfl (by first | exact rdHsB_i b e _ (by omega) | (simp only [stp, hv, qv, ev, cD, scr, scrL, Ent.scr, flat, one, binQ, ldQ, storeQ, lay, Nat.reduceLT, Nat.reduceLeDiff, Nat.reduceAdd, Nat.reduceEqDiff, Nat.reduceMul, Nat.reduceSub, reduceIte, reduceCtorEq, fillQ, bne_iff_ne, Nat.reduceBNe, Nat.reduceBEq, rowsOf, cloL, clo, exists_eq_left', exists_and_left, appendQ, partsQ, Int.cast_ofNat_Int, Int.reduceBEq, Int.reduceBNe, Int.reduceLT, Int.reduceLE, Int.reduceEq, Int.reduceNe, Int.reduceAdd, Int.reduceSub, Int.reduceNeg, Int.reduceToNat, decide_true, decide_false, ne_eq, not_false_eq_true, true_and, and_true, Nat.add_zero, Nat.zero_add, Nat.not_lt_zero, Bool.not_true, Bool.not_false, Int.le_refl, bA, bB, callQ, viewL, view, noFsL, noFs, intsOf, Option.map_some, bT, gx, fx]; exact rdHsB_i b e _ (by omega))) (by rfl) csq (by intro d hd; (repeat (rcases List.mem_cons.1 hd with rfl | hd; · exact ⟨⟨rfl, rfl⟩, rfl, rfl⟩)); cases hd) (by first | exact yA_nil | (intro i e hi; simp only [mkT] at hi; (repeat' split at hi) <;> simp_all)) ?_); simp only [addS, addM, ren, renL, rid, scr, scrL, Ent.scr, Nat.reduceMul, Nat.reduceAdd, Nat.reduceEqDiff, reduceIte, bA]) | (refine gp fun KK hK => ?_; first | (refine hK _ _ ?_; clear hK KK) | (refine hK _ ?_; clear hK KK; try simp only [upd_mk]) | ((with_reducible first | refine .inl ⟨_, _, ⟨c', rfl, csq⟩, hK _ _ (nz ?_)⟩ | refine .inl ⟨_, _, ⟨rdHsB_i b e _ (by omega), rfl, csq⟩, hK _ _ (nz ?_)⟩ | refine ⟨_, ⟨c', rfl, rfl, csq⟩, hK _ (nz ?_)⟩ | refine ⟨_, ⟨rdHsB_i b e _ (by omega), rfl, rfl, csq⟩, hK _ (nz ?_)⟩); clear hK KK) | (refine ⟨by first | exact eq_hop, hK _ _ ?_⟩; clear hK KK) | (refine ⟨by first | exact eq_hop, hK _ (nz ?_)⟩; clear hK KK) | ((repeat refine And.intro (by first | omega | (rw [getD_map_lt (by omega)]; rfl) | (simp; first | done | omega)) ?_); first | (refine hK _ _ ?_; clear hK KK) | (refine hK _ ?_; clear hK KK; try simp only [upd_mk]))) | ((with_reducible first | refine o_nil (hT _ _ ?_) | refine h_nil (hT _ ?_)); clear hT KT) | ((first | refine gd fun AA BB hA hB => ?_ | refine tc fun AA BB hA hB => ?_); first | (refine go ?_; (first | refine hA ?_ | refine hB ?_); clear hA hB AA BB) | (refine go2 ?_ ?_ <;> intro hb <;> (first | refine hA ?_ | refine hB ?_) <;> clear hA hB AA BB <;> (try simp only [hb, decide_true, decide_false]) <;> (try (exfalso; first | (simp at hb; done) | (simp at hb; omega))))) | (with_reducible refine skS ?_; simp only [upd_mk]) | (refine t_drawG (id := 5) [] [11] (by kernel_rfl) (by decide) (by kernel_rfl) fun KT hT => ?_) | with_reducible refine tdr fun KT hT => ?_ | with_reducible refine bY ?_)
        (refine fo [] ?_; try exact trivial)
        exact ⟨rfl, rfl, by simp⟩
      · rw [if_pos (by omega)] at hs
        cases hh : rdHops b e m with
        | none =>
          rw [hh] at hs
          refine acall_mk Try.func63 rfl Try.ntmps63 Try.results63 (by kernel_rfl) (by simp) ?_
          simp only [args, Nat.zero_add, Nat.reduceAdd]
          repeat' (first | with_reducible refine go ?_ | with_reducible refine t_region fun KT hT => ?_ | (refine kd 0 ?_; refine g_nil ?_; simp only [realS_mk, realM_mk, pvS, pv, List.nil_append, List.cons_append]; try (refine hT _ _ ?_; clear hT KT)) | (refine kd 1 ?_; refine g_alloc (by first | exact congrArg TI.zero ti3 | exact congrArg TI.zero ti31 | exact congrArg TI.zero ti107) (by simp) (by rfl) (by rfl) (by simp) (by decide) rfl rfl rfl ?_) | (refine kd 2 ?_; refine g_store rfl rfl (by simp) (by decide) fun KK hK => ?_; simp only [pv, stp, hv, qv, ev, cD, scr, scrL, Ent.scr, flat, one, binQ, ldQ, storeQ, lay, Nat.reduceLT, Nat.reduceLeDiff, Nat.reduceAdd, Nat.reduceEqDiff, Nat.reduceMul, Nat.reduceSub, reduceIte, reduceCtorEq, fillQ, bne_iff_ne, Nat.reduceBNe, Nat.reduceBEq, rowsOf, cloL, clo, exists_eq_left', exists_and_left, appendQ, partsQ, Int.cast_ofNat_Int, Int.reduceBEq, Int.reduceBNe, Int.reduceLT, Int.reduceLE, Int.reduceEq, Int.reduceNe, Int.reduceAdd, Int.reduceSub, Int.reduceNeg, Int.reduceToNat, decide_true, decide_false, ne_eq, not_false_eq_true, true_and, and_true, Nat.add_zero, Nat.zero_add, Nat.not_lt_zero, Bool.not_true, Bool.not_false, Int.le_refl, bA, bB, callQ, viewL, view, noFsL, noFs, intsOf, Option.map_some, bT, gx, fx]; refine hK _ ?_; clear hK KK; try simp only [del_cons, del_nil, upd_mk, Nat.reduceEqDiff, reduceIte]) | (refine kd 3 ?_; (first | refine g_bcall rfl (by decide) rfl (by first | exact c' | (simp only [stp, hv, qv, ev, cD, scr, scrL, Ent.scr, flat, one, binQ, ldQ, storeQ, lay, Nat.reduceLT, Nat.reduceLeDiff, Nat.reduceAdd, Nat.reduceEqDiff, Nat.reduceMul, Nat.reduceSub, reduceIte, reduceCtorEq, fillQ, bne_iff_ne, Nat.reduceBNe, Nat.reduceBEq, rowsOf, cloL, clo, exists_eq_left', exists_and_left, appendQ, partsQ, Int.cast_ofNat_Int, Int.reduceBEq, Int.reduceBNe, Int.reduceLT, Int.reduceLE, Int.reduceEq, Int.reduceNe, Int.reduceAdd, Int.reduceSub, Int.reduceNeg, Int.reduceToNat, decide_true, decide_false, ne_eq, not_false_eq_true, true_and, and_true, Nat.add_zero, Nat.zero_add, Nat.not_lt_zero, Bool.not_true, Bool.not_false, Int.le_refl, bA, bB, callQ, viewL, view, noFsL, noFs, intsOf, Option.map_some, bT, gx, fx]; exact c')) (by rfl) csq (by intro d hd; (repeat (rcases List.mem_cons.1 hd with rfl | hd; · exact ⟨⟨rfl, rfl⟩, rfl, rfl⟩)); cases hd) (by first | exact yA_nil | (intro i e hi; simp only [mkT] at hi; (repeat' split at hi) <;> simp_all)) ?_ | refine g_bcall rfl (by decide) rfl (by first | exact rdHs0_i b e m hb h8 hh | (simp only [stp, hv, qv, ev, cD, scr, scrL, Ent.scr, flat, one, binQ, ldQ, storeQ, lay, Nat.reduceLT, Nat.reduceLeDiff, Nat.reduceAdd, Nat.reduceEqDiff, Nat.reduceMul, Nat.reduceSub, reduceIte, reduceCtorEq, fillQ, bne_iff_ne, Nat.reduceBNe, Nat.reduceBEq, rowsOf, cloL, clo, exists_eq_left', exists_and_left, appendQ, partsQ, Int.cast_ofNat_Int, Int.reduceBEq, Int.reduceBNe, Int.reduceLT, Int.reduceLE, Int.reduceEq, Int.reduceNe, Int.reduceAdd, Int.reduceSub, Int.reduceNeg, Int.reduceToNat, decide_true, decide_false, ne_eq, not_false_eq_true, true_and, and_true, Nat.add_zero, Nat.zero_add, Nat.not_lt_zero, Bool.not_true, Bool.not_false, Int.le_refl, bA, bB, callQ, viewL, view, noFsL, noFs, intsOf, Option.map_some, bT, gx, fx]; exact rdHs0_i b e m hb h8 hh)) (by rfl) csq (by intro d hd; (repeat (rcases List.mem_cons.1 hd with rfl | hd; · exact ⟨⟨rfl, rfl⟩, rfl, rfl⟩)); cases hd) (by first | exact yA_nil | (intro i e hi; simp only [mkT] at hi; (repeat' split at hi) <;> simp_all)) ?_); simp only [addS, addM, ren, renL, rid, scr, scrL, Ent.scr, Nat.reduceMul, Nat.reduceAdd, Nat.reduceEqDiff, reduceIte, bA]) | (refine gp fun KK hK => ?_; first | (refine hK _ _ ?_; clear hK KK) | (refine hK _ ?_; clear hK KK; try simp only [upd_mk]) | ((with_reducible first | refine .inl ⟨_, _, ⟨c', rfl, csq⟩, hK _ _ (nz ?_)⟩ | refine .inl ⟨_, _, ⟨rdHs0_i b e m hb h8 hh, rfl, csq⟩, hK _ _ (nz ?_)⟩ | refine ⟨_, ⟨c', rfl, rfl, csq⟩, hK _ (nz ?_)⟩ | refine ⟨_, ⟨rdHs0_i b e m hb h8 hh, rfl, rfl, csq⟩, hK _ (nz ?_)⟩); clear hK KK) | (refine ⟨by first | exact eq_hop, hK _ _ ?_⟩; clear hK KK) | (refine ⟨by first | exact eq_hop, hK _ (nz ?_)⟩; clear hK KK) | ((repeat refine And.intro (by first | omega | (rw [getD_map_lt (by omega)]; rfl) | (simp; first | done | omega)) ?_); first | (refine hK _ _ ?_; clear hK KK) | (refine hK _ ?_; clear hK KK; try simp only [upd_mk]))) | ((with_reducible first | refine o_nil (hT _ _ ?_) | refine h_nil (hT _ ?_)); clear hT KT) | ((first | refine gd fun AA BB hA hB => ?_ | refine tc fun AA BB hA hB => ?_); first | (refine go ?_; (first | refine hA ?_ | refine hB ?_); clear hA hB AA BB) | (refine go2 ?_ ?_ <;> intro hb <;> (first | refine hA ?_ | refine hB ?_) <;> clear hA hB AA BB <;> (try simp only [hb, decide_true, decide_false]) <;> (try (exfalso; first | (simp at hb; done) | (simp at hb; omega))))) | (with_reducible refine skS ?_; simp only [upd_mk]) | (refine t_drawG (id := 5) [] [11] (by kernel_rfl) (by decide) (by kernel_rfl) fun KT hT => ?_) | with_reducible refine tdr fun KT hT => ?_ | with_reducible refine bY ?_)
          (refine fo [] ?_; try exact trivial)
          exact ⟨rfl, rfl, by simp⟩
        | some q =>
          obtain ⟨H, z1⟩ := q
          rw [hh] at hs
          simp only at hs
          have hH := rdHops_len hh
          have ce := enc_i ⟨ts, be, H⟩ (by simp only; omega)
          have ch := rdHs_i b e m hb h8 H z1 hh
          simp only [segRow] at ce
          rcases Bool.eq_false_or_eq_true (encodable ⟨ts, be, H⟩) with q1 | q1
          · rw [if_pos q1] at hs
            rw [q1] at ce
            cases hs
          · rw [if_neg (by simp [q1])] at hs
            rw [q1] at ce
            refine acall_mk Try.func63 rfl Try.ntmps63 Try.results63 (by kernel_rfl) (by simp) ?_
            simp only [args, Nat.zero_add, Nat.reduceAdd]
            repeat' (first | with_reducible refine go ?_ | with_reducible refine t_region fun KT hT => ?_ | (refine kd 0 ?_; refine g_nil ?_; simp only [realS_mk, realM_mk, pvS, pv, List.nil_append, List.cons_append]; try (refine hT _ _ ?_; clear hT KT)) | (refine kd 1 ?_; refine g_alloc (by first | exact congrArg TI.zero ti3 | exact congrArg TI.zero ti31 | exact congrArg TI.zero ti107) (by simp) (by rfl) (by rfl) (by simp) (by decide) rfl rfl rfl ?_) | (refine kd 2 ?_; refine g_store rfl rfl (by simp) (by decide) fun KK hK => ?_; simp only [pv, stp, hv, qv, ev, cD, scr, scrL, Ent.scr, flat, one, binQ, ldQ, storeQ, lay, Nat.reduceLT, Nat.reduceLeDiff, Nat.reduceAdd, Nat.reduceEqDiff, Nat.reduceMul, Nat.reduceSub, reduceIte, reduceCtorEq, fillQ, bne_iff_ne, Nat.reduceBNe, Nat.reduceBEq, rowsOf, cloL, clo, exists_eq_left', exists_and_left, appendQ, partsQ, Int.cast_ofNat_Int, Int.reduceBEq, Int.reduceBNe, Int.reduceLT, Int.reduceLE, Int.reduceEq, Int.reduceNe, Int.reduceAdd, Int.reduceSub, Int.reduceNeg, Int.reduceToNat, decide_true, decide_false, ne_eq, not_false_eq_true, true_and, and_true, Nat.add_zero, Nat.zero_add, Nat.not_lt_zero, Bool.not_true, Bool.not_false, Int.le_refl, bA, bB, callQ, viewL, view, noFsL, noFs, intsOf, Option.map_some, bT, gx, fx]; refine hK _ ?_; clear hK KK; try simp only [del_cons, del_nil, upd_mk, Nat.reduceEqDiff, reduceIte]) | (refine kd 3 ?_; (first | refine g_bcall rfl (by decide) rfl (by first | exact c' | (simp only [stp, hv, qv, ev, cD, scr, scrL, Ent.scr, flat, one, binQ, ldQ, storeQ, lay, Nat.reduceLT, Nat.reduceLeDiff, Nat.reduceAdd, Nat.reduceEqDiff, Nat.reduceMul, Nat.reduceSub, reduceIte, reduceCtorEq, fillQ, bne_iff_ne, Nat.reduceBNe, Nat.reduceBEq, rowsOf, cloL, clo, exists_eq_left', exists_and_left, appendQ, partsQ, Int.cast_ofNat_Int, Int.reduceBEq, Int.reduceBNe, Int.reduceLT, Int.reduceLE, Int.reduceEq, Int.reduceNe, Int.reduceAdd, Int.reduceSub, Int.reduceNeg, Int.reduceToNat, decide_true, decide_false, ne_eq, not_false_eq_true, true_and, and_true, Nat.add_zero, Nat.zero_add, Nat.not_lt_zero, Bool.not_true, Bool.not_false, Int.le_refl, bA, bB, callQ, viewL, view, noFsL, noFs, intsOf, Option.map_some, bT, gx, fx]; exact c')) (by rfl) csq (by intro d hd; (repeat (rcases List.mem_cons.1 hd with rfl | hd; · exact ⟨⟨rfl, rfl⟩, rfl, rfl⟩)); cases hd) (by first | exact yA_nil | (intro i e hi; simp only [mkT] at hi; (repeat' split at hi) <;> simp_all)) ?_ | refine g_bcall rfl (by decide) rfl (by first | exact ch | (simp only [stp, hv, qv, ev, cD, scr, scrL, Ent.scr, flat, one, binQ, ldQ, storeQ, lay, Nat.reduceLT, Nat.reduceLeDiff, Nat.reduceAdd, Nat.reduceEqDiff, Nat.reduceMul, Nat.reduceSub, reduceIte, reduceCtorEq, fillQ, bne_iff_ne, Nat.reduceBNe, Nat.reduceBEq, rowsOf, cloL, clo, exists_eq_left', exists_and_left, appendQ, partsQ, Int.cast_ofNat_Int, Int.reduceBEq, Int.reduceBNe, Int.reduceLT, Int.reduceLE, Int.reduceEq, Int.reduceNe, Int.reduceAdd, Int.reduceSub, Int.reduceNeg, Int.reduceToNat, decide_true, decide_false, ne_eq, not_false_eq_true, true_and, and_true, Nat.add_zero, Nat.zero_add, Nat.not_lt_zero, Bool.not_true, Bool.not_false, Int.le_refl, bA, bB, callQ, viewL, view, noFsL, noFs, intsOf, Option.map_some, bT, gx, fx]; exact ch)) (by rfl) csq (by intro d hd; (repeat (rcases List.mem_cons.1 hd with rfl | hd; · exact ⟨⟨rfl, rfl⟩, rfl, rfl⟩)); cases hd) (by first | exact yA_nil | (intro i e hi; simp only [mkT] at hi; (repeat' split at hi) <;> simp_all)) ?_ | refine g_bcall rfl (by decide) rfl (by first | exact ce | (simp only [stp, hv, qv, ev, cD, scr, scrL, Ent.scr, flat, one, binQ, ldQ, storeQ, lay, Nat.reduceLT, Nat.reduceLeDiff, Nat.reduceAdd, Nat.reduceEqDiff, Nat.reduceMul, Nat.reduceSub, reduceIte, reduceCtorEq, fillQ, bne_iff_ne, Nat.reduceBNe, Nat.reduceBEq, rowsOf, cloL, clo, exists_eq_left', exists_and_left, appendQ, partsQ, Int.cast_ofNat_Int, Int.reduceBEq, Int.reduceBNe, Int.reduceLT, Int.reduceLE, Int.reduceEq, Int.reduceNe, Int.reduceAdd, Int.reduceSub, Int.reduceNeg, Int.reduceToNat, decide_true, decide_false, ne_eq, not_false_eq_true, true_and, and_true, Nat.add_zero, Nat.zero_add, Nat.not_lt_zero, Bool.not_true, Bool.not_false, Int.le_refl, bA, bB, callQ, viewL, view, noFsL, noFs, intsOf, Option.map_some, bT, gx, fx]; exact ce)) (by rfl) csq (by intro d hd; (repeat (rcases List.mem_cons.1 hd with rfl | hd; · exact ⟨⟨rfl, rfl⟩, rfl, rfl⟩)); cases hd) (by first | exact yA_nil | (intro i e hi; simp only [mkT] at hi; (repeat' split at hi) <;> simp_all)) ?_); simp only [addS, addM, ren, renL, rid, scr, scrL, Ent.scr, Nat.reduceMul, Nat.reduceAdd, Nat.reduceEqDiff, reduceIte, bA]) | (refine gp fun KK hK => ?_; first | (refine hK _ _ ?_; clear hK KK) | (refine hK _ ?_; clear hK KK; try simp only [upd_mk]) | ((with_reducible first | refine .inl ⟨_, _, ⟨c', rfl, csq⟩, hK _ _ (nz ?_)⟩ | refine .inl ⟨_, _, ⟨ch, rfl, csq⟩, hK _ _ (nz ?_)⟩ | refine .inl ⟨_, _, ⟨ce, rfl, csq⟩, hK _ _ (nz ?_)⟩ | refine ⟨_, ⟨c', rfl, rfl, csq⟩, hK _ (nz ?_)⟩ | refine ⟨_, ⟨ch, rfl, rfl, csq⟩, hK _ (nz ?_)⟩ | refine ⟨_, ⟨ce, rfl, rfl, csq⟩, hK _ (nz ?_)⟩); clear hK KK) | (refine ⟨by first | exact eq_hop, hK _ _ ?_⟩; clear hK KK) | (refine ⟨by first | exact eq_hop, hK _ (nz ?_)⟩; clear hK KK) | ((repeat refine And.intro (by first | omega | (rw [getD_map_lt (by omega)]; rfl) | (simp; first | done | omega)) ?_); first | (refine hK _ _ ?_; clear hK KK) | (refine hK _ ?_; clear hK KK; try simp only [upd_mk]))) | ((with_reducible first | refine o_nil (hT _ _ ?_) | refine h_nil (hT _ ?_)); clear hT KT) | ((first | refine gd fun AA BB hA hB => ?_ | refine tc fun AA BB hA hB => ?_); first | (refine go ?_; (first | refine hA ?_ | refine hB ?_); clear hA hB AA BB) | (refine go2 ?_ ?_ <;> intro hb <;> (first | refine hA ?_ | refine hB ?_) <;> clear hA hB AA BB <;> (try simp only [hb, decide_true, decide_false]) <;> (try (exfalso; first | (simp at hb; done) | (simp at hb; omega))))) | (with_reducible refine skS ?_; simp only [upd_mk]) | (refine t_drawG (id := 5) [] [11] (by kernel_rfl) (by decide) (by kernel_rfl) fun KT hT => ?_) | with_reducible refine tdr fun KT hT => ?_ | with_reducible refine bY ?_)
            (refine fo [] ?_; try exact trivial)
            exact ⟨rfl, rfl, by simp⟩

end Go.Proofs.Ytmiclkgkfkcnoaa
