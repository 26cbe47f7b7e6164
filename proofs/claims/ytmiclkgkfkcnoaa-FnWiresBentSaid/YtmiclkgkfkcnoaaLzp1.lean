/- The functions of this program, walked by the evaluator: part zp, 1. -/
import Derived.Test.YtmiclkgkfkcnoaaLzg1
import Derived.Test.YtmiclkgkfkcnoaaLD
namespace Go.Proofs.Ytmiclkgkfkcnoaa
open Go.RowKit
set_option linter.unusedSimpArgs false
set_option linter.unusedVariables false
set_option maxRecDepth 100000
set_option linter.defProp false
namespace GLzp1
def gx := And.intro (@hopRow.eq_1) (And.intro (@polRow.eq_1) (And.intro (@segRow.eq_1) (And.intro (@intRow.eq_1) (And.intro (@rowLen_ints) (And.intro (@rowLen_nil) (And.intro (@rowLen_cons) (And.intro (@rowLen_append) (And.intro (@lenL_app) (And.intro (@byteRow.eq_1) (And.intro (@rowLen_bytes) (And.intro (@bytesOf_map) (And.intro (@bytesOf_cons) (And.intro (@bytesOf_one) (And.intro (@rowLen_strs) (And.intro (@asRow.eq_1) (And.intro (@lkRow.eq_1) (And.intro (@tpRow.eq_1) (And.intro (@rowLen_hops) (And.intro (@rowLen_ases) (And.intro (@rowLen_links) (And.intro (@bcRow.eq_1) (And.intro (@rowLen_bcs) (@u8Row.eq_1)))))))))))))))))))))))
end GLzp1
open GLzp1
/-! bytes that are read are the bytes of what was written -/
-- (62 63)
theorem rdGo_dec {b : List UInt8} {a : Nat} : ∀ (f k n : Nat) {x e : Nat}, rdGo b a f k n = some (x, e) → ∃ m, x = n + m * 2 ^ (7 * k) ∧ b.drop (a + k) = vEnc m ++ b.drop e ∧ (k = 0 ∨ m ≠ 0) ∧ a + k < e
  | 0, k, n, x, e, h => by simp [rdGo] at h
  | f + 1, k, n, x, e, h => by
    by_cases q : a + k < b.length
    · rw [rdGo_step _ _ q] at h
      have hd := List.drop_eq_getElem_cons q
      have hb : b[a + k].toNat < 256 := b[a + k].toNat_lt
      have ho : UInt8.ofNat b[a + k].toNat = b[a + k] := by simp
      generalize b[a + k] = y at *
      split at h
      · rename_i c
        split at h
        · cases h
        · rename_i c2
          simp only [Option.some.injEq, Prod.mk.injEq] at h
          refine ⟨y.toNat, ?_, ?_, ?_, by omega⟩
          · rw [← h.1, Nat.mod_eq_of_lt c]
          · rw [vEnc_lt c, hd, ho, ← h.2]; rfl
          · omega
      · rename_i c
        obtain ⟨m, h1, h2, h3, h4⟩ := rdGo_dec f (k + 1) _ h
        have e3 : 2 ^ (7 * (k + 1)) = 128 * 2 ^ (7 * k) := by rw [show 7 * (k + 1) = 7 * k + 7 by omega, Nat.pow_add]; omega
        have m0 : m ≠ 0 := by omega
        refine ⟨y.toNat % 128 + 128 * m, ?_, ?_, by omega, by omega⟩
        · rw [h1, e3, Nat.add_mul, Nat.add_assoc]
          congr 2
          rw [← Nat.mul_assoc, Nat.mul_comm m 128]
        · have c1 : ¬ y.toNat % 128 + 128 * m < 128 := by omega
          have c2 : (y.toNat % 128 + 128 * m) % 128 + 128 = y.toNat := by omega
          have c3 : (y.toNat % 128 + 128 * m) / 128 = m := by omega
          rw [vEnc_ge c1, c2, c3, hd, ho, List.cons_append, ← h2]; rfl
    · rw [rdGo_end _ _ q] at h; cases h
theorem readV_dec {b : List UInt8} {a : Nat} {x e : Nat} (h : readV b a = some (x, e)) : inR (x : Int) 0 1000000000000 = true ∧ b.drop a = varI x ++ b.drop e ∧ a < e ∧ e ≤ b.length := by
  have hl := readV_lt h
  rw [readV, if_neg (by omega), Int.toNat_natCast] at h
  obtain ⟨m, h1, h2, _, h4⟩ := rdGo_dec 6 0 0 h
  have hx : inR (x : Int) 0 1000000000000 = true := by simp [inR]; omega
  have e1 : m = x := by rw [h1]; simp
  subst e1
  refine ⟨hx, ?_, by omega, hl.1⟩
  rw [varI, if_pos hx, Int.toNat_natCast]
  simpa using h2
theorem encI_cons (x : Int) (l : List Int) : encI (x :: l) = varI x ++ encI l := by simp [encI]
theorem decGo_dec {b : List UInt8} : ∀ (m a : Nat) {l : List Int} {e : Nat}, a ≤ b.length → decGo b m a = some (l, e) → (∀ x ∈ l, inR x 0 1000000000000 = true) ∧ b.drop a = encI l ++ b.drop e ∧ a ≤ e ∧ e ≤ b.length
  | 0, a, l, e, ha, h => by
    simp only [decGo, Option.some.injEq, Prod.mk.injEq] at h
    rw [← h.1, ← h.2]
    refine ⟨by simp, by simp [encI], Nat.le_refl _, ha⟩
  | m + 1, a, l, e, ha, h => by
    unfold decGo at h
    split at h
    · cases h
    · rename_i x z hz
      simp only [Option.map_eq_some_iff] at h
      obtain ⟨⟨l', e'⟩, h1, h2⟩ := h
      simp only [Prod.mk.injEq] at h2
      obtain ⟨g1, g2, g3, g4⟩ := readV_dec hz
      obtain ⟨k1, k2, k3, k4⟩ := decGo_dec m z g4 h1
      rw [← h2.1, ← h2.2]
      refine ⟨?_, ?_, by omega, k4⟩
      · intro y hy
        rcases List.mem_cons.1 hy with q | q
        · rw [q]; exact g1
        · exact k1 y q
      · rw [encI_cons, List.append_assoc, ← k2]; exact g2
theorem decI_dec {b : List UInt8} {i : Int} {m : Nat} {l : List Int} {e : Nat} (h : decI b i m = some (l, e)) : ∃ a : Nat, i = a ∧ a ≤ b.length ∧ (∀ x ∈ l, inR x 0 1000000000000 = true) ∧ b.drop a = encI l ++ b.drop e ∧ a ≤ e ∧ e ≤ b.length := by
  unfold decI at h
  split at h
  · rename_i c
    simp only [inR, Bool.and_eq_true, decide_eq_true_eq] at c
    exact ⟨i.toNat, by omega, by omega, decGo_dec m _ (by omega) h⟩
  · cases h
theorem rdHop_dec {b : List UInt8} {i : Int} {h : Hp} {e : Nat} (hr : rdHop b i = some (h, e)) : validHop h = true ∧ ∃ a : Nat, i = a ∧ a ≤ b.length ∧ b.drop a = encHop h ++ b.drop e ∧ a ≤ e ∧ e ≤ b.length := by
  unfold rdHop at hr
  split at hr
  · rename_i x y z u v e' hd
    split at hr
    · rename_i hv
      simp only [Option.some.injEq, Prod.mk.injEq] at hr
      obtain ⟨r1, r2⟩ := hr
      subst r1; subst r2
      obtain ⟨a, h1, h2, _, h4, h5, h6⟩ := decI_dec hd
      refine ⟨hv, a, h1, h2, ?_, h5, h6⟩
      rw [encHop, if_pos hv]; exact h4
    · cases hr
  · cases hr
theorem encHops_cons (x : Hp) (l : List Hp) : encHops (x :: l) = encHop x ++ encHops l := by simp [encHops]
theorem rdHops_dec {b : List UInt8} : ∀ (m a : Nat) {l : List Hp} {e : Nat}, a ≤ b.length → rdHops b a m = some (l, e) → b.drop a = encHops l ++ b.drop e ∧ a ≤ e ∧ e ≤ b.length
  | 0, a, l, e, ha, h => by
    simp only [rdHops, Option.some.injEq, Prod.mk.injEq] at h
    rw [← h.1, ← h.2]
    refine ⟨by simp [encHops], Nat.le_refl _, ha⟩
  | m + 1, a, l, e, ha, h => by
    unfold rdHops at h
    split at h
    · cases h
    · rename_i x z hz
      simp only [Option.map_eq_some_iff] at h
      obtain ⟨⟨l', e'⟩, h1, h2⟩ := h
      simp only [Prod.mk.injEq] at h2
      obtain ⟨_, a', g0, g1, g2, g3, g4⟩ := rdHop_dec hz
      have ea : a' = a := by omega
      subst ea
      obtain ⟨k1, k2, k3⟩ := rdHops_dec m z g4 h1
      rw [← h2.1, ← h2.2]
      refine ⟨?_, by omega, k3⟩
      rw [encHops_cons, List.append_assoc, ← k1]; exact g2
theorem encodable_R {s : Sg} (h : encodable s = true) : (0 ≤ s.ts ∧ s.ts ≤ 1000000) ∧ (0 ≤ s.beta ∧ s.beta ≤ 2147483646) ∧ s.hops.length ≤ 8 ∧ ∀ x ∈ s.hops, validHop x = true := by
  simp only [encodable, inR, Bool.and_eq_true, decide_eq_true_eq, List.all_eq_true] at h
  exact ⟨h.1.1.1, h.1.1.2, h.1.2, h.2⟩
theorem rdSeg_dec {b : List UInt8} {i : Int} {s : Sg} {e : Nat} (hr : rdSeg b i = some (s, e)) : encodable s = true ∧ ∃ a : Nat, i = a ∧ a ≤ b.length ∧ b.drop a = encSeg s ++ b.drop e ∧ a ≤ e ∧ e ≤ b.length := by
  unfold rdSeg at hr
  split at hr
  · rename_i ts be n z hd
    split at hr
    · rename_i hn
      split at hr
      · rename_i H y hh
        split at hr
        · rename_i hv
          simp only [Option.some.injEq, Prod.mk.injEq] at hr
          obtain ⟨r1, r2⟩ := hr
          subst r1; subst r2
          obtain ⟨a, h1, h2, h3, h4, h5, h6⟩ := decI_dec hd
          obtain ⟨g1, g2, g3⟩ := rdHops_dec n.toNat z h6 hh
          have hlen := rdHops_len hh
          have n0 : 0 ≤ n := by
            have := h3 n (by simp)
            simp only [inR, Bool.and_eq_true, decide_eq_true_eq] at this
            omega
          refine ⟨hv, a, h1, h2, ?_, by omega, g3⟩
          have en : ((H.length : Nat) : Int) = n := by omega
          rw [encSeg, if_pos hv]
          simp only [en]
          rw [List.append_assoc, ← g1]; exact h4
        · cases hr
      · cases hr
    · cases hr
  · cases hr
theorem take_enc {b L : List UInt8} {a e : Nat} (h : b.drop a = L ++ b.drop e) : b.take a ++ L = b.take e := by
  have h1 : (b.take a ++ L) ++ b.drop e = b.take e ++ b.drop e := by
    rw [List.append_assoc, ← h, List.take_append_drop, List.take_append_drop]
  exact List.append_cancel_right h1

end Go.Proofs.Ytmiclkgkfkcnoaa
