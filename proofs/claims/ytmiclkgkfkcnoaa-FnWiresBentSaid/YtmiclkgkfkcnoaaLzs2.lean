/- The functions of this program, walked by the evaluator: part zs, 2. -/
import Derived.Test.YtmiclkgkfkcnoaaLzg2
import Derived.Test.YtmiclkgkfkcnoaaLzs1
namespace Go.Proofs.Ytmiclkgkfkcnoaa
open Go.RowKit
set_option linter.unusedSimpArgs false
set_option linter.unusedVariables false
set_option maxRecDepth 100000
set_option linter.defProp false
namespace GLzs2
def gx := And.intro (@hopRow.eq_1) (And.intro (@polRow.eq_1) (And.intro (@segRow.eq_1) (And.intro (@intRow.eq_1) (And.intro (@rowLen_ints) (And.intro (@rowLen_nil) (And.intro (@rowLen_cons) (And.intro (@rowLen_append) (And.intro (@lenL_app) (And.intro (@byteRow.eq_1) (And.intro (@rowLen_bytes) (And.intro (@bytesOf_map) (And.intro (@bytesOf_cons) (And.intro (@bytesOf_one) (And.intro (@rowLen_strs) (And.intro (@asRow.eq_1) (And.intro (@lkRow.eq_1) (And.intro (@tpRow.eq_1) (And.intro (@rowLen_hops) (And.intro (@rowLen_ases) (And.intro (@rowLen_links) (And.intro (@bcRow.eq_1) (And.intro (@rowLen_bcs) (@u8Row.eq_1)))))))))))))))))))))))
end GLzs2
open GLzs2
set_option maxHeartbeats 8000000 in
theorem drawRS_e (b : List UInt8) (zb : b.length ≤ 1048576) : ECall Try.prog 68 [.sl (b.map byteRow)] [] 0 (fun x : List UInt8 × Int => x.1.length ≤ 1024) (fun x => .tup [.sl (x.1.map byteRow), .int .i64 x.2]) (fun _ => []) := by
  refine ecall_mk Try.func68 rfl Try.ntmps68 Try.results68 (by kernel_rfl) (by simp) (by decide) (by simp) rfl rfl ?_
  simp only [args, pinE, bk, bkL, bkE, bkEs, setE, Nat.zero_add, Nat.reduceAdd, bA, bB]
  repeat' (first | with_reducible refine go ?_ | with_reducible refine t_region fun KT hT => ?_ | (refine gp fun KK hK => ?_; first | (refine hK _ _ ?_; clear hK KK) | (refine hK _ ?_; clear hK KK; try simp only [upd_mk]) | ((first | (refine .inr (.inr (eQ [] (l1New_e b zb) (fun x hx => hK _ _ ?_))); refine nze ?_)); clear hK KK) | (refine ⟨by first | exact eq_hop | exact eq_pol, hK _ _ ?_⟩; clear hK KK) | (refine ⟨by first | exact eq_hop | exact eq_pol, hK _ (nz ?_)⟩; clear hK KK) | ((repeat refine And.intro (by first | omega | (rw [getD_map_lt (by omega)]; rfl) | (simp; first | done | omega)) ?_); first | (refine hK _ _ ?_; clear hK KK) | (refine hK _ ?_; clear hK KK; try simp only [upd_mk]))) | ((with_reducible first | refine o_nil (hT _ _ ?_) | refine h_nil (hT _ ?_)); clear hT KT) | ((first | refine gd fun AA BB hA hB => ?_ | refine tc fun AA BB hA hB => ?_); first | (refine go ?_; (first | refine hA ?_ | refine hB ?_); clear hA hB AA BB) | (refine go2 ?_ ?_ <;> intro hb <;> (first | refine hA ?_ | refine hB ?_) <;> clear hA hB AA BB <;> (try simp only [hb, decide_true, decide_false]) <;> (try (exfalso; first | (simp at hb; done) | (simp at hb; omega))))) | (with_reducible refine skS ?_; simp only [upd_mk]) | with_reducible refine tdr fun KT hT => ?_ | with_reducible refine bY ?_)
  (refine gp fun KK hK => ?_; refine .inr (.inr (eQ [_] (l9Any_e b zb _ _) (fun x1 hx1 => hK _ _ ?_))); refine nze ?_; clear hK KK)
  obtain ⟨⟨A, L⟩, ⟨ts, be, H⟩, i1, h1⟩ := x1
  obtain ⟨_, hs⟩ := hx1
  have hl := hs.len
  simp only at hl
  have cb := appSeg_s [9] ⟨ts, be, H⟩ (by simp) (by simp only; omega)
  simp only [List.map_cons, List.map_nil, byteRow, nine, segRow] at cb
  have hle : (encSeg ⟨ts, be, H⟩).length ≤ 258 := encSeg_258 ⟨ts, be, H⟩
  generalize encSeg ⟨ts, be, H⟩ = en at *
  repeat' (first | with_reducible refine go ?_ | with_reducible refine t_region fun KT hT => ?_ | (refine gp fun KK hK => ?_; first | (refine hK _ _ ?_; clear hK KK) | (refine hK _ ?_; clear hK KK; try simp only [upd_mk]) | ((with_reducible first | refine .inl ⟨_, _, ⟨cb, rfl, csq⟩, hK _ _ (nz ?_)⟩ | refine ⟨_, ⟨cb, rfl, rfl, csq⟩, hK _ (nz ?_)⟩); clear hK KK) | (refine ⟨by first | exact eq_hop | exact eq_pol, hK _ _ ?_⟩; clear hK KK) | (refine ⟨by first | exact eq_hop | exact eq_pol, hK _ (nz ?_)⟩; clear hK KK) | ((repeat refine And.intro (by first | omega | (rw [getD_map_lt (by omega)]; rfl) | (simp; first | done | omega)) ?_); first | (refine hK _ _ ?_; clear hK KK) | (refine hK _ ?_; clear hK KK; try simp only [upd_mk]))) | ((with_reducible first | refine o_nil (hT _ _ ?_) | refine h_nil (hT _ ?_)); clear hT KT) | ((first | refine gd fun AA BB hA hB => ?_ | refine tc fun AA BB hA hB => ?_); first | (refine go ?_; (first | refine hA ?_ | refine hB ?_); clear hA hB AA BB) | (refine go2 ?_ ?_ <;> intro hb <;> (first | refine hA ?_ | refine hB ?_) <;> clear hA hB AA BB <;> (try simp only [hb, decide_true, decide_false]) <;> (try (exfalso; first | (simp at hb; done) | (simp at hb; omega))))) | (with_reducible refine skS ?_; simp only [upd_mk]) | with_reducible refine tdr fun KT hT => ?_ | with_reducible refine bY ?_)
  (refine gp fun KK hK => ?_; refine .inr (.inr (eQ [_] (l1Bent_e b zb _ _ ([9] ++ en) (by simp only [List.length_append, List.length_cons, List.length_nil]; omega)) (fun x2 hx2 => hK _ _ ?_) (hI := imp_freeze 1018 rfl (Imp.refl _ _ _)))); refine nze ?_; clear hK KK)
  obtain ⟨m, i2, h2⟩ := x2
  simp only [List.length_append, List.length_cons, List.length_nil] at hx2
  repeat' (first | with_reducible refine go ?_ | with_reducible refine t_region fun KT hT => ?_ | (refine gp fun KK hK => ?_; first | (refine hK _ _ ?_; clear hK KK) | (refine hK _ ?_; clear hK KK; try simp only [upd_mk]) | ((first | (refine .inr (.inr (eQ [_, _] (l1Int_e b zb _ _ [1, 1, 1, 0, -1, 99] (by simp)) (fun x hx => hK _ _ ?_))); refine nze ?_)); clear hK KK) | (refine ⟨by first | exact eq_hop | exact eq_pol, hK _ _ ?_⟩; clear hK KK) | (refine ⟨by first | exact eq_hop | exact eq_pol, hK _ (nz ?_)⟩; clear hK KK) | ((repeat refine And.intro (by first | omega | (rw [getD_map_lt (by omega)]; rfl) | (simp; first | done | omega)) ?_); first | (refine hK _ _ ?_; clear hK KK) | (refine hK _ ?_; clear hK KK; try simp only [upd_mk]))) | ((with_reducible first | refine o_nil (hT _ _ ?_) | refine h_nil (hT _ ?_)); clear hT KT) | ((first | refine gd fun AA BB hA hB => ?_ | refine tc fun AA BB hA hB => ?_); first | (refine go ?_; (first | refine hA ?_ | refine hB ?_); clear hA hB AA BB) | (refine go2 ?_ ?_ <;> intro hb <;> (first | refine hA ?_ | refine hB ?_) <;> clear hA hB AA BB <;> (try simp only [hb, decide_true, decide_false]) <;> (try (exfalso; first | (simp at hb; done) | (simp at hb; omega))))) | (with_reducible refine skS ?_; simp only [upd_mk]) | with_reducible refine tdr fun KT hT => ?_ | with_reducible refine bY ?_)
  refine fin_e ((m, _)) [] (Imp.refl _ _ _) ?_ (by simp only [resQ, packD, frzP, frzT, frz, frzL, Ent.frz, bk, bkL, bkE, bkEs, callQ, viewL, view, noFsL, noFs, intsOf, Option.map_some, stp, hv, qv, ev, cD, scr, scrL, Ent.scr, flat, one, binQ, ldQ, storeQ, lay, Nat.reduceLT, Nat.reduceLeDiff, Nat.reduceAdd, Nat.reduceEqDiff, Nat.reduceMul, Nat.reduceSub, reduceIte, reduceCtorEq, fillQ, bne_iff_ne, Nat.reduceBNe, Nat.reduceBEq, rowsOf, cloL, clo, exists_eq_left', exists_and_left, appendQ, partsQ, Int.cast_ofNat_Int, Int.reduceBEq, Int.reduceBNe, Int.reduceLT, Int.reduceLE, Int.reduceEq, Int.reduceNe, Int.reduceAdd, Int.reduceSub, Int.reduceNeg, Int.reduceToNat, decide_true, decide_false, ne_eq, not_false_eq_true, true_and, and_true, Nat.add_zero, Nat.zero_add, Nat.not_lt_zero, Bool.not_true, Bool.not_false, Int.le_refl, bA, bB, bT, gx]; first | done | trivial | exact ⟨rfl, rfl⟩)
  simp only; omega

theorem same_l (hs gs : List UInt8) (hl : hs.length ≤ 1048576) : ACall Try.prog 53 [.sl (hs.map byteRow), .sl (gs.map byteRow)] (.bool (decide (hs = gs))) [] := by
  refine acall_mk Try.func53 rfl Try.ntmps53 Try.results53 (by kernel_rfl) (by simp) ?_
  simp only [args, Nat.zero_add, Nat.reduceAdd]
  repeat' (first | with_reducible refine go ?_ | with_reducible refine t_region fun KT hT => ?_ | (refine gp fun KK hK => ?_; first | (refine hK _ _ ?_; clear hK KK) | (refine hK _ ?_; clear hK KK; try simp only [upd_mk]) | (refine ⟨by first | exact eq_hop | exact eq_pol, hK _ _ ?_⟩; clear hK KK) | (refine ⟨by first | exact eq_hop | exact eq_pol, hK _ (nz ?_)⟩; clear hK KK) | ((repeat refine And.intro (by first | omega | (rw [getD_map_lt (by omega)]; rfl) | (simp; first | done | omega)) ?_); first | (refine hK _ _ ?_; clear hK KK) | (refine hK _ ?_; clear hK KK; try simp only [upd_mk]))) | ((with_reducible first | refine o_nil (hT _ _ ?_) | refine h_nil (hT _ ?_)); clear hT KT) | ((first | refine gd fun AA BB hA hB => ?_ | refine tc fun AA BB hA hB => ?_); first | (refine go ?_; (first | refine hA ?_ | refine hB ?_); clear hA hB AA BB) | (refine go2 ?_ ?_ <;> intro hb <;> (first | refine hA ?_ | refine hB ?_) <;> clear hA hB AA BB <;> (try simp only [hb, decide_true, decide_false]) <;> (try (exfalso; first | (simp at hb; done) | (simp at hb; omega))))) | (with_reducible refine skS ?_; simp only [upd_mk]) | with_reducible refine tdr fun KT hT => ?_ | with_reducible refine bY ?_)
  · (refine fe ?_; try exact trivial)
    have : hs ≠ gs := by rintro rfl; simp at hb
    simp [this]
  · have hlen : gs.length = hs.length := by simp at hb; omega
    refine t_loop (fun k : Nat => [(0, .sl (hs.map byteRow)), (1, .sl (gs.map byteRow)), (5, .int .i64 k)]) (fun _ => []) (fun k => k ≤ hs.length ∧ hs.take k = gs.take k) (fun k => hs.length - k) 0 (imp_keep (by simp [Keep, mk]) trivial rfl) ⟨Nat.zero_le _, by simp⟩ ?_
    rintro k ⟨hk, ht⟩
    rcases Nat.lt_or_ge k hs.length with h | h
    · have h' : k < gs.length := by omega
      have e1 : decide ((k : Int) < (hs.length : Int)) = true := by simpa using h
      have e2 := getD_map_lt (f := byteRow) h
      have e3 := getD_map_lt (f := byteRow) h'
      (have fx := And.intro (@e1) (And.intro (@e2) (And.intro (@e3) (And.intro (@h) (@h'))))
       repeat' (first | with_reducible refine go ?_ | with_reducible refine t_region fun KT hT => ?_ | (refine gp fun KK hK => ?_; first | (refine hK _ _ ?_; clear hK KK) | (refine hK _ ?_; clear hK KK; try simp only [upd_mk]) | (refine ⟨by first | exact eq_hop | exact eq_pol, hK _ _ ?_⟩; clear hK KK) | (refine ⟨by first | exact eq_hop | exact eq_pol, hK _ (nz ?_)⟩; clear hK KK) | ((repeat refine And.intro (by first | omega | (rw [getD_map_lt (by omega)]; rfl) | (simp; first | done | omega)) ?_); first | (refine hK _ _ ?_; clear hK KK) | (refine hK _ ?_; clear hK KK; try simp only [upd_mk]))) | ((with_reducible first | refine o_nil (hT _ _ ?_) | refine h_nil (hT _ ?_)); clear hT KT) | ((first | refine gd fun AA BB hA hB => ?_ | refine tc fun AA BB hA hB => ?_); first | (refine go ?_; (first | refine hA ?_ | refine hB ?_); clear hA hB AA BB) | (refine go2 ?_ ?_ <;> intro hb <;> (first | refine hA ?_ | refine hB ?_) <;> clear hA hB AA BB <;> (try simp only [hb, decide_true, decide_false]) <;> (try (exfalso; first | (simp at hb; done) | (simp at hb; omega))))) | (with_reducible refine skS ?_; simp only [upd_mk]) | with_reducible refine tdr fun KT hT => ?_ | with_reducible refine bY ?_)
       all_goals clear fx)
      · (refine fe ?_; try exact trivial)
        have : hs ≠ gs := by rintro rfl; simp at hb
        simp [this]
      · refine k_rnd (k + 1) (imp_keep ?_ trivial rfl) ⟨h, ?_⟩ (by omega)
        · simp [Keep, mk, wrapS (show k < 4611686018427387904 by omega)]
        · exact take_step h h' ht (u8_inj hb)
    · have e1 : decide ((k : Int) < (hs.length : Int)) = false := by simpa using h
      (have fx := (@e1)
       repeat' (first | with_reducible refine go ?_ | with_reducible refine t_region fun KT hT => ?_ | (refine gp fun KK hK => ?_; first | (refine hK _ _ ?_; clear hK KK) | (refine hK _ ?_; clear hK KK; try simp only [upd_mk]) | (refine ⟨by first | exact eq_hop | exact eq_pol, hK _ _ ?_⟩; clear hK KK) | (refine ⟨by first | exact eq_hop | exact eq_pol, hK _ (nz ?_)⟩; clear hK KK) | ((repeat refine And.intro (by first | omega | (rw [getD_map_lt (by omega)]; rfl) | (simp; first | done | omega)) ?_); first | (refine hK _ _ ?_; clear hK KK) | (refine hK _ ?_; clear hK KK; try simp only [upd_mk]))) | ((with_reducible first | refine o_nil (hT _ _ ?_) | refine h_nil (hT _ ?_)); clear hT KT) | ((first | refine gd fun AA BB hA hB => ?_ | refine tc fun AA BB hA hB => ?_); first | (refine go ?_; (first | refine hA ?_ | refine hB ?_); clear hA hB AA BB) | (refine go2 ?_ ?_ <;> intro hb <;> (first | refine hA ?_ | refine hB ?_) <;> clear hA hB AA BB <;> (try simp only [hb, decide_true, decide_false]) <;> (try (exfalso; first | (simp at hb; done) | (simp at hb; omega))))) | (with_reducible refine skS ?_; simp only [upd_mk]) | with_reducible refine tdr fun KT hT => ?_ | with_reducible refine bY ?_)
       all_goals clear fx)
      (refine fe ?_; try exact trivial)
      have : hs = gs := by rw [List.take_of_length_le (by omega), List.take_of_length_le (by omega)] at ht; exact ht
      simp [this]

-- (62 63)
def rdSegD : Option (Sg × Nat) → List D
  | none => [.agg [.int .i64 0, .int .i64 0, .sl []], .int .i64 0, .bool false]
  | some (s, z) => [.agg (segRow s), .int .i64 z, .bool true]
theorem rdHopD_of (o : Option (Hp × Nat)) : ∃ (g : Hp) (e : Nat) (ok : Bool), rdHopD o = [.agg (hopRow g), .int .i64 e, .bool ok] ∧ (ok = true → o = some (g, e)) ∧ (∀ z, o = some z → g = z.1 ∧ e = z.2 ∧ ok = true) := by
  cases o with
  | none => exact ⟨⟨0, 0, 0, 0, 0⟩, 0, false, rfl, fun h => (by cases h), fun z h => (by cases h)⟩
  | some p => exact ⟨p.1, p.2, true, rfl, fun _ => rfl, fun z h => (by cases h; exact ⟨rfl, rfl, rfl⟩)⟩
theorem rdSegD_of (o : Option (Sg × Nat)) : ∃ (g : Sg) (e : Nat) (ok : Bool), rdSegD o = [.agg (segRow g), .int .i64 e, .bool ok] ∧ (ok = true → o = some (g, e)) ∧ (∀ z, o = some z → g = z.1 ∧ e = z.2 ∧ ok = true) := by
  cases o with
  | none => exact ⟨⟨0, 0, []⟩, 0, false, rfl, fun h => (by cases h), fun z h => (by cases h)⟩
  | some p => exact ⟨p.1, p.2, true, rfl, fun _ => rfl, fun z h => (by cases h; exact ⟨rfl, rfl, rfl⟩)⟩

theorem rdSegC_i (b : List UInt8) (i : Int) (hb : b.length ≤ 1073741824) : ACall Try.prog 63 [.sl (b.map byteRow), .int .i64 i] (.tup (rdSegD (rdSeg b i))) [] := by
  cases q : rdSeg b i with
  | none => exact (rdSeg0_i b i hb q).ro
  | some p => exact (rdSeg_i b i hb p.1 p.2 q).ro

theorem rdSegC_s (b : List UInt8) (i : Int) (hb : b.length ≤ 1073741824) : ACall Try.prog 69 [.sl (b.map byteRow), .int .i64 i] (.tup (rdSegD (rdSeg b i))) [] := by
  cases q : rdSeg b i with
  | none => exact (rdSeg0_s b i hb q).ro
  | some p => exact (rdSeg_s b i hb p.1 p.2 q).ro

end Go.Proofs.Ytmiclkgkfkcnoaa
