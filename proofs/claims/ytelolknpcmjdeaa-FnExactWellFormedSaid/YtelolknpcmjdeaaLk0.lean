/- The words of this part of the program (k). -/
import Derived.Test.YtelolknpcmjdeaaLj0
namespace Go.Proofs.Ytelolknpcmjdeaa
open Go.RowKit
set_option linter.unusedSimpArgs false
set_option linter.unusedVariables false
set_option maxRecDepth 100000
theorem flat_map {α : Type} {f : α → List D} (hf : ∀ a, (f a).all scal = true) (l : List α) : FlatRows (l.map f) := by
  intro r hr d hd
  obtain ⟨a, _, rfl⟩ := List.mem_map.1 hr
  exact List.all_eq_true.1 (hf a) d hd
def fmtAS (t : Tp) (r : Int) : List UInt8 := if hh : realm t r = true then fmtInt (t.ases[r.toNat]'(realm_lt hh).2).isd ++ [45] ++ fmtInt r else [63]
theorem fmtAS_len {t : Tp} (w : tpW t) {r : Int} (hr : i64R r) : (fmtAS t r).length ≤ 60 := by
  unfold fmtAS
  split
  · rename_i hh
    have h1 := w.1 _ (List.getElem_mem (realm_lt hh).2)
    have a1 := fmtInt_20 h1.1.1 h1.1.2
    have a2 := fmtInt_20 hr.1 hr.2
    simp only [List.length_append, List.length_cons, List.length_nil]; omega
  · simp
def fmtHop (t : Tp) (h : Hp) : List UInt8 := fmtAS t h.asn ++ [58] ++ fmtInt h.ing ++ [62] ++ fmtInt h.eg

def vEnc (n : Nat) : List UInt8 := if h : n < 128 then [UInt8.ofNat n] else UInt8.ofNat (n % 128 + 128) :: vEnc (n / 128)
termination_by n
decreasing_by omega
theorem vEnc_lt {n : Nat} (h : n < 128) : vEnc n = [UInt8.ofNat n] := by rw [vEnc, dif_pos h]
theorem vEnc_ge {n : Nat} (h : ¬ n < 128) : vEnc n = UInt8.ofNat (n % 128 + 128) :: vEnc (n / 128) := by rw [vEnc, dif_neg h]
theorem vEnc_len : ∀ (k n : Nat), n < 128 ^ (k + 1) → (vEnc n).length ≤ k + 1
  | 0, n, h => by rw [vEnc_lt (by omega)]; simp
  | k + 1, n, h => by
    by_cases h1 : n < 128
    · rw [vEnc_lt h1]; simp
    · rw [vEnc_ge h1]
      have := vEnc_len k (n / 128) (by rw [Nat.pow_succ] at h; omega)
      simp only [List.length_cons]; omega
def varI (n : Int) : List UInt8 := if inR n 0 1000000000000 then vEnc n.toNat else []
theorem varI_len (n : Int) : (varI n).length ≤ 6 := by
  unfold varI
  split
  · rename_i h
    simp only [inR, Bool.and_eq_true, decide_eq_true_eq] at h
    exact vEnc_len 5 _ (by omega)
  · simp
def encI (l : List Int) : List UInt8 := l.flatMap varI
theorem encI_len : ∀ (l : List Int), (encI l).length ≤ 6 * l.length
  | [] => by simp [encI]
  | x :: l => by
    have := encI_len l
    have := varI_len x
    simp only [encI, List.flatMap_cons, List.length_append, List.length_cons] at *; omega
theorem encI_step (l : List Int) (k : Nat) (h : k < l.length) : encI (l.take (k + 1)) = encI (l.take k) ++ varI l[k] := by
  rw [List.take_succ_eq_append_getElem h]; simp only [encI, List.flatMap_append, List.flatMap_cons, List.flatMap_nil, List.append_nil]
theorem byte128 (m : Nat) : IntKind.u8.wrap ((m % 128 + 128 : Nat) : Int) = ((UInt8.ofNat (m % 128 + 128)).toNat : Int) := by
  rw [IntKind.wrap_u8, UInt8.toNat_ofNat']; omega
theorem byteLt {m : Nat} (h : m < 128) : IntKind.u8.wrap (m : Int) = ((UInt8.ofNat m).toNat : Int) := by
  rw [IntKind.wrap_u8, UInt8.toNat_ofNat']; omega
theorem and127 (m : Nat) (h : m < 4611686018427387904) : IntKind.i64.wrap (BitVec.ofInt IntKind.i64.bits (m : Int) &&& BitVec.ofInt IntKind.i64.bits 127).toNat = ((m % 128 : Nat) : Int) := by
  have e : (BitVec.ofInt IntKind.i64.bits (m : Int) &&& BitVec.ofInt IntKind.i64.bits 127).toNat = m % 128 := by
    show (BitVec.ofInt 64 (m : Int) &&& BitVec.ofInt 64 127).toNat = m % 128
    rw [BitVec.toNat_and, BitVec.ofInt_natCast, BitVec.toNat_ofNat, show (BitVec.ofInt 64 127).toNat = 2 ^ 7 - 1 from rfl, Nat.and_two_pow_sub_one_eq_mod]
    omega
  rw [e]; exact wr64 (by omega) (by omega)
theorem or128 (m : Nat) : IntKind.i64.wrap (BitVec.ofInt IntKind.i64.bits ((m % 128 : Nat) : Int) ||| BitVec.ofInt IntKind.i64.bits 128).toNat = ((m % 128 + 128 : Nat) : Int) := by
  have e : (BitVec.ofInt IntKind.i64.bits ((m % 128 : Nat) : Int) ||| BitVec.ofInt IntKind.i64.bits 128).toNat = m % 128 + 128 := by
    show (BitVec.ofInt 64 ((m % 128 : Nat) : Int) ||| BitVec.ofInt 64 128).toNat = m % 128 + 128
    rw [BitVec.toNat_or, BitVec.ofInt_natCast, BitVec.toNat_ofNat, show (BitVec.ofInt 64 128).toNat = 2 ^ 7 * 1 from rfl, Nat.mod_eq_of_lt (show m % 128 < 2 ^ 64 by omega), Nat.or_comm, ← Nat.two_pow_add_eq_or_of_lt (show m % 128 < 2 ^ 7 by omega)]
    omega
  rw [e]; exact wr64 (by omega) (by omega)

def hopNs (h : Hp) : List Int := [h.asn, h.ing, h.eg, h.ex, h.mac]
def encHop (h : Hp) : List UInt8 := if validHop h then encI (hopNs h) else []
theorem encHop_len (h : Hp) : (encHop h).length ≤ 30 := by
  unfold encHop
  split
  · exact encI_len (hopNs h)
  · simp

def encHops (l : List Hp) : List UInt8 := l.flatMap encHop
theorem encHops_step (l : List Hp) (k : Nat) (h : k < l.length) : encHops (l.take (k + 1)) = encHops (l.take k) ++ encHop l[k] := by
  rw [List.take_succ_eq_append_getElem h]; simp only [encHops, List.flatMap_append, List.flatMap_cons, List.flatMap_nil, List.append_nil]
theorem encHops_len : ∀ (l : List Hp), (encHops l).length ≤ 30 * l.length
  | [] => by simp [encHops]
  | x :: l => by
    have := encHops_len l
    have := encHop_len x
    simp only [encHops, List.flatMap_cons, List.length_append, List.length_cons] at *; omega
def encSeg (s : Sg) : List UInt8 := if encodable s then encI [s.ts, s.beta, s.hops.length] ++ encHops s.hops else []

end Go.Proofs.Ytelolknpcmjdeaa
