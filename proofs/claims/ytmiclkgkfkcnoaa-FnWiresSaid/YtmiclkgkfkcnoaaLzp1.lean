/- The functions of this program, walked by the evaluator: part zp, 1. -/
import Derived.Test.YtmiclkgkfkcnoaaLzg1
import Derived.Test.YtmiclkgkfkcnoaaLD
namespace Go.Proofs.Ytmiclkgkfkcnoaa
open Go.RowKit
set_option linter.unusedSimpArgs false
set_option linter.unusedVariables false
set_option maxRecDepth 100000
set_option linter.defProp false
namespace GLzp1
def gx := And.intro (@hopRow.eq_1) (And.intro (@polRow.eq_1) (And.intro (@segRow.eq_1) (And.intro (@intRow.eq_1) (And.intro (@rowLen_ints) (And.intro (@rowLen_nil) (And.intro (@rowLen_cons) (And.intro (@rowLen_append) (And.intro (@lenL_app) (And.intro (@byteRow.eq_1) (And.intro (@rowLen_bytes) (And.intro (@bytesOf_map) (And.intro (@bytesOf_cons) (And.intro (@bytesOf_one) (And.intro (@rowLen_strs) (And.intro (@asRow.eq_1) (And.intro (@lkRow.eq_1) (And.intro (@tpRow.eq_1) (And.intro (@rowLen_hops) (And.intro (@rowLen_ases) (And.intro (@rowLen_links) (And.intro (@bcRow.eq_1) (And.intro (@rowLen_bcs) (@u8Row.eq_1)))))))))))))))))))))))
end GLzp1
open GLzp1
/-! bytes that are read are the bytes of what was written -/
-- (62 63)
theorem dropC {α : Type} {b : List α} {a : Nat} {x : α} {R : List α} (h : b.drop a = x :: R) : ∃ q : a < b.length, b[a] = x ∧ b.drop (a + 1) = R := by
  have q : a < b.length := by
    rcases Nat.lt_or_ge a b.length with q | q
    · exact q
    · rw [List.drop_of_length_le q] at h; cases h
  rw [List.drop_eq_getElem_cons q] at h
  simp only [List.cons.injEq] at h
  exact ⟨q, h.1, h.2⟩
theorem dropA {α : Type} {b L R : List α} {a : Nat} (h : b.drop a = L ++ R) : b.drop (a + L.length) = R := by
  rw [← List.drop_drop, h, List.drop_left]
theorem rdGo_enc {b R : List UInt8} {a : Nat} : ∀ (f k n m : Nat), b.drop (a + k) = vEnc m ++ R → m < 128 ^ f → (k = 0 ∨ m ≠ 0) → (0 < f ∨ m ≠ 0) → n + m * 2 ^ (7 * k) ≤ 1000000000000 → rdGo b a f k n = some (n + m * 2 ^ (7 * k), a + k + (vEnc m).length)
  | 0, k, n, m, h, hm, hk, hf, hn => by
    have m0 : m = 0 := by simpa using hm
    rcases hf with hf | hf
    · omega
    · exact absurd m0 hf
  | f + 1, k, n, m, h, hm, hk, hf, hn => by
    by_cases hlt : m < 128
    · rw [vEnc_lt hlt] at h ⊢
      obtain ⟨q, h1, h2⟩ := dropC h
      rw [rdGo_step _ _ q, h1]
      have e : (UInt8.ofNat m).toNat = m := by rw [UInt8.toNat_ofNat']; omega
      rw [e, if_pos hlt, Nat.mod_eq_of_lt hlt, if_neg (by omega)]
      simp
    · rw [vEnc_ge hlt] at h ⊢
      obtain ⟨q, h1, h2⟩ := dropC h
      rw [rdGo_step _ _ q, h1]
      have e : (UInt8.ofNat (m % 128 + 128)).toNat = m % 128 + 128 := by rw [UInt8.toNat_ofNat']; omega
      have e2 : (m % 128 + 128) % 128 = m % 128 := by omega
      have e3 : 2 ^ (7 * (k + 1)) = 128 * 2 ^ (7 * k) := by rw [show 7 * (k + 1) = 7 * k + 7 by omega, Nat.pow_add]; omega
      have e4 : m % 128 * 2 ^ (7 * k) + m / 128 * (128 * 2 ^ (7 * k)) = m * 2 ^ (7 * k) := by
        rw [← Nat.mul_assoc, ← Nat.add_mul]
        congr 1; omega
      rw [e, if_neg (by omega), e2, rdGo_enc f (k + 1) _ (m / 128) (by rw [← Nat.add_assoc]; exact h2) (by rw [Nat.pow_succ] at hm; omega) (.inr (by omega)) (.inr (by omega)) (by rw [e3]; omega), e3]
      simp only [Option.some.injEq, Prod.mk.injEq, List.length_cons]
      omega
theorem readV_enc {b R : List UInt8} {a : Nat} {n : Int} (h : b.drop a = varI n ++ R) (hn : inR n 0 1000000000000 = true) : readV b a = some (n.toNat, a + (varI n).length) := by
  have hv : varI n = vEnc n.toNat := by rw [varI, if_pos hn]
  simp only [inR, Bool.and_eq_true, decide_eq_true_eq] at hn
  rw [hv] at h ⊢
  have := rdGo_enc (b := b) (R := R) (a := a) 6 0 0 n.toNat (by simpa using h) (by omega) (.inl rfl) (.inl (by omega)) (by omega)
  rw [readV, if_neg (by omega), Int.toNat_natCast, this]
  simp
theorem encI_cons (x : Int) (l : List Int) : encI (x :: l) = varI x ++ encI l := by simp [encI]
theorem decGo_enc {b R : List UInt8} : ∀ (l : List Int) (a : Nat), b.drop a = encI l ++ R → (∀ x ∈ l, inR x 0 1000000000000 = true) → decGo b l.length a = some (l, a + (encI l).length)
  | [], a, _, _ => by simp [decGo, encI]
  | x :: l, a, h, hx => by
    rw [encI_cons, List.append_assoc] at h
    have h1 := readV_enc h (hx x (List.mem_cons_self ..))
    have h2 := decGo_enc l _ (dropA h) (fun y hy => hx y (List.mem_cons_of_mem _ hy))
    have hn := hx x (List.mem_cons_self ..)
    simp only [inR, Bool.and_eq_true, decide_eq_true_eq] at hn
    rw [List.length_cons, decGo, h1]
    simp only [h2, Option.map_some, Option.some.injEq, Prod.mk.injEq, List.cons.injEq, encI_cons, List.length_append, and_true]
    omega
theorem decI_enc {b R : List UInt8} {l : List Int} {a : Nat} (ha : a ≤ b.length) (h : b.drop a = encI l ++ R) (hx : ∀ x ∈ l, inR x 0 1000000000000 = true) : decI b a l.length = some (l, a + (encI l).length) := by
  rw [decI, if_pos (by simp [inR]; omega), Int.toNat_natCast, decGo_enc l a h hx]
theorem hop_inR {h : Hp} (hv : validHop h = true) : ∀ x ∈ hopNs h, inR x 0 1000000000000 = true := by
  have := validHop_R hv
  intro x hx
  simp only [hopNs, List.mem_cons, List.not_mem_nil, or_false] at hx
  simp only [inR, Bool.and_eq_true, decide_eq_true_eq]
  omega
theorem rdHop_enc {b R : List UInt8} {h : Hp} {a : Nat} (hv : validHop h = true) (ha : a ≤ b.length) (hd : b.drop a = encHop h ++ R) : rdHop b a = some (h, a + (encHop h).length) := by
  have e : encHop h = encI (hopNs h) := by rw [encHop, if_pos hv]
  rw [e] at hd ⊢
  have := decI_enc ha hd (hop_inR hv)
  have e5 : (hopNs h).length = 5 := rfl
  rw [e5] at this
  rw [rdHop, this]
  simp only [hopNs]
  rw [if_pos hv]
theorem encHops_cons (x : Hp) (l : List Hp) : encHops (x :: l) = encHop x ++ encHops l := by simp [encHops]
theorem rdHops_enc {b R : List UInt8} : ∀ (l : List Hp) (a : Nat), a ≤ b.length → b.drop a = encHops l ++ R → (∀ h ∈ l, validHop h = true) → rdHops b a l.length = some (l, a + (encHops l).length)
  | [], a, _, _, _ => by simp [rdHops, encHops]
  | x :: l, a, ha, h, hx => by
    rw [encHops_cons, List.append_assoc] at h
    have h1 := rdHop_enc (hx x (List.mem_cons_self ..)) ha h
    have hle : a + (encHop x).length ≤ b.length := by
      have := congrArg List.length h
      simp only [List.length_drop, List.length_append] at this
      omega
    have h2 := rdHops_enc l _ hle (dropA h) (fun y hy => hx y (List.mem_cons_of_mem _ hy))
    rw [List.length_cons, rdHops, h1]
    simp only [h2, Option.map_some, Option.some.injEq, Prod.mk.injEq, encHops_cons, List.length_append, true_and]
    omega
theorem encodable_R {s : Sg} (h : encodable s = true) : (0 ≤ s.ts ∧ s.ts ≤ 1000000) ∧ (0 ≤ s.beta ∧ s.beta ≤ 2147483646) ∧ s.hops.length ≤ 8 ∧ ∀ x ∈ s.hops, validHop x = true := by
  simp only [encodable, inR, Bool.and_eq_true, decide_eq_true_eq, List.all_eq_true] at h
  exact ⟨h.1.1.1, h.1.1.2, h.1.2, h.2⟩
theorem rdSeg_enc {b R : List UInt8} {s : Sg} {a : Nat} (hv : encodable s = true) (ha : a ≤ b.length) (hd : b.drop a = encSeg s ++ R) : rdSeg b a = some (s, a + (encSeg s).length) := by
  have e : encSeg s = encI [s.ts, s.beta, s.hops.length] ++ encHops s.hops := by rw [encSeg, if_pos hv]
  obtain ⟨v1, v2, v3, v4⟩ := encodable_R hv
  rw [e] at hd ⊢
  rw [List.append_assoc] at hd
  have h1 := decI_enc ha hd (by
    intro x hx
    simp only [List.mem_cons, List.not_mem_nil, or_false] at hx
    simp only [inR, Bool.and_eq_true, decide_eq_true_eq]
    omega)
  have hle : a + (encI [s.ts, s.beta, (s.hops.length : Int)]).length ≤ b.length := by
    have := congrArg List.length hd
    simp only [List.length_drop, List.length_append] at this
    omega
  have h2 := rdHops_enc s.hops _ hle (dropA hd) v4
  have e3 : [s.ts, s.beta, (s.hops.length : Int)].length = 3 := rfl
  rw [e3] at h1
  rw [rdSeg, h1]
  have e4 : ((s.hops.length : Int) ≤ 8) := by omega
  simp only [e4, if_true, Int.toNat_natCast, h2, hv, List.length_append, Nat.add_assoc]
end Go.Proofs.Ytmiclkgkfkcnoaa
