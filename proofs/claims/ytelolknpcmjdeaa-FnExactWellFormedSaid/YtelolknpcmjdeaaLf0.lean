/- The words of this part of the program (f). -/
import Derived.Test.YtelolknpcmjdeaaLe0
namespace Go.Proofs.Ytelolknpcmjdeaa
open Go.RowKit
set_option linter.unusedSimpArgs false
set_option linter.unusedVariables false
set_option maxRecDepth 100000
/-- the digits -/
def digs (m : Nat) : List UInt8 := if h : m < 10 then [UInt8.ofNat (48 + m)] else digs (m / 10) ++ [UInt8.ofNat (48 + m % 10)]
termination_by m
decreasing_by omega
theorem digs_lt {m : Nat} (h : m < 10) : digs m = [UInt8.ofNat (48 + m % 10)] := by rw [digs, dif_pos h, Nat.mod_eq_of_lt h]
theorem digs_ge {m : Nat} (h : ¬ m < 10) : digs m = digs (m / 10) ++ [UInt8.ofNat (48 + m % 10)] := by rw [digs, dif_neg h]
theorem digs_len : ∀ (k m : Nat), m < 10 ^ (k + 1) → (digs m).length ≤ k + 1
  | 0, m, h => by rw [digs_lt (by simpa using h)]; simp
  | k + 1, m, h => by
    by_cases hm : m < 10
    · rw [digs_lt hm]; simp
    · rw [digs_ge hm]
      have := digs_len k (m / 10) (by rw [Nat.pow_succ] at h; omega)
      simp; omega
theorem digs_20 {n : Int} (h1 : -9223372036854775808 ≤ n) (h2 : n < 9223372036854775808) : (digs n.natAbs).length ≤ 20 := digs_len 19 _ (by omega)
def fmtInt (n : Int) : List UInt8 := if n < 0 then 45 :: digs n.natAbs else digs n.natAbs
abbrev byteRow (b : UInt8) : List D := [.int .u8 b.toNat]
theorem rowLen_bytes (l : List UInt8) : RowLen (l.map byteRow) 1 := rowLen_map fun _ => rfl
theorem bytesOf_map : ∀ (l : List UInt8), bytesOf (l.map byteRow) = some l
  | [] => rfl
  | b :: l => by simp [bytesOf, bytesOf_map l]
theorem bytesOf_cons (b : UInt8) (l : List UInt8) : bytesOf ([.int .u8 b.toNat] :: l.map byteRow) = some (b :: l) := bytesOf_map (b :: l)
theorem bytesOf_one (b : UInt8) : bytesOf [[.int .u8 b.toNat]] = some [b] := bytesOf_map [b]
theorem digit {m : Int} : (if m.tmod 10 < 0 then -(m.tmod 10) else m.tmod 10) = ((m.natAbs % 10 : Nat) : Int) := by
  rcases Int.natAbs_eq m with h | h
  · rw [h]; have : (m.natAbs : Int).tmod 10 = ((m.natAbs % 10 : Nat) : Int) := rfl
    simp only [Int.natAbs_natCast]
    rw [this]; split <;> omega
  · rw [h]; have : (-(m.natAbs : Int)).tmod 10 = -((m.natAbs % 10 : Nat) : Int) := by rw [Int.neg_tmod]; rfl
    simp only [Int.natAbs_neg, Int.natAbs_natCast]
    rw [this]; split <;> omega
theorem tdiv10 (m : Int) : (m.tdiv 10).natAbs = m.natAbs / 10 := by rw [Int.natAbs_tdiv]; rfl
theorem byte_of (d : Nat) (h : d < 10) : IntKind.u8.wrap (IntKind.i64.wrap (48 + (d : Int))) = ((UInt8.ofNat (48 + d)).toNat : Int) := by
  rw [wr64 (by omega) (by omega), IntKind.wrap_u8']
  simp

end Go.Proofs.Ytelolknpcmjdeaa
