/- The functions of this program, walked by the evaluator: part f, 1. -/
import Derived.Test.YtmiclkgkfkcnoaaLD
namespace Go.Proofs.Ytmiclkgkfkcnoaa
open Go.RowKit
set_option linter.unusedSimpArgs false
set_option linter.unusedVariables false
set_option maxRecDepth 100000
set_option linter.defProp false
namespace GLf1
def gx := And.intro (@hopRow.eq_1) (And.intro (@polRow.eq_1) (And.intro (@segRow.eq_1) (And.intro (@intRow.eq_1) (And.intro (@rowLen_ints) (And.intro (@rowLen_nil) (And.intro (@rowLen_cons) (And.intro (@rowLen_append) (And.intro (@lenL_app) (And.intro (@byteRow.eq_1) (And.intro (@rowLen_bytes) (And.intro (@bytesOf_map) (And.intro (@bytesOf_cons) (@bytesOf_one)))))))))))))
end GLf1
open GLf1
theorem fmtInt_i (n : Int) (h1 : -9223372036854775808 ≤ n) (h2 : n < 9223372036854775808) : ACall Try.prog 134 [.int .i64 n] (.str (fmtInt n)) [] := by
  refine acall_mk Try.func134 rfl Try.ntmps134 Try.results134 (by kernel_rfl) (by simp) ?_
  simp only [args, Nat.zero_add, Nat.reduceAdd]
  repeat' (first | with_reducible refine go ?_ | with_reducible refine t_region fun KT hT => ?_ | (refine gp fun KK hK => ?_; first | (refine hK _ _ ?_; clear hK KK) | (refine hK _ ?_; clear hK KK; try simp only [upd_mk]) | (refine ⟨by first | exact eq_hop, hK _ _ ?_⟩; clear hK KK) | (refine ⟨by first | exact eq_hop, hK _ (nz ?_)⟩; clear hK KK) | ((repeat refine And.intro (by first | omega | (rw [getD_map_lt (by omega)]; rfl) | (simp; first | done | omega)) ?_); first | (refine hK _ _ ?_; clear hK KK) | (refine hK _ ?_; clear hK KK; try simp only [upd_mk]))) | ((with_reducible first | refine o_nil (hT _ _ ?_) | refine h_nil (hT _ ?_)); clear hT KT) | ((first | refine gd fun AA BB hA hB => ?_ | refine tc fun AA BB hA hB => ?_); first | (refine go ?_; (first | refine hA ?_ | refine hB ?_); clear hA hB AA BB) | (refine go2 ?_ ?_ <;> intro hb <;> (first | refine hA ?_ | refine hB ?_) <;> clear hA hB AA BB <;> (try simp only [hb, decide_true, decide_false]) <;> (try (exfalso; first | (simp at hb; done) | (simp at hb; omega))))) | (with_reducible refine skS ?_; simp only [upd_mk]) | with_reducible refine tdr fun KT hT => ?_ | with_reducible refine bY ?_)
  refine t_loop (fun p : Int × List UInt8 => [(0, .int .i64 p.1), (3, .sl (p.2.map byteRow)), (4, .bool (decide (n < 0)))]) (fun _ => []) (fun p => -9223372036854775808 ≤ p.1 ∧ p.1 < 9223372036854775808 ∧ digs n.natAbs = digs p.1.natAbs ++ p.2) (fun p => p.1.natAbs) (n, []) (imp_nil 3 99 rfl rfl (imp_freeze 99 rfl (imp_keep (by simp [Keep, mk, frzP, frz]) trivial rfl))) ⟨h1, h2, by simp⟩ ?_
  rintro ⟨m, acc⟩ ⟨m1, m2, hd⟩
  simp only at m1 m2 hd
  have hl : acc.length ≤ 20 := by have := digs_20 h1 h2; rw [hd] at this; simp at this; omega
  have ht := tdiv10 m
  have e1 : IntKind.i64.wrap (m.tdiv 10) = m.tdiv 10 := wr64 (by omega) (by omega)
  have h10 : m.natAbs % 10 < 10 := Nat.mod_lt _ (by omega)
  have hq := digit (m := m)
  have hb0 := byte_of (m.natAbs % 10) h10
  have neg : m.tmod 10 < 0 → IntKind.u8.wrap (IntKind.i64.wrap (48 + IntKind.i64.wrap (0 - m.tmod 10))) = ((UInt8.ofNat (48 + m.natAbs % 10)).toNat : Int) := by
    intro hh; rw [if_pos hh] at hq; rw [Int.zero_sub, hq, wr64 (a := ((m.natAbs % 10 : Nat) : Int)) (by omega) (by omega)]; exact hb0
  have pos : ¬ m.tmod 10 < 0 → IntKind.u8.wrap (IntKind.i64.wrap (48 + m.tmod 10)) = ((UInt8.ofNat (48 + m.natAbs % 10)).toNat : Int) := by
    intro hh; rw [if_neg hh] at hq; rw [hq]; exact hb0
  have last : m.tdiv 10 = 0 → digs n.natAbs = UInt8.ofNat (48 + m.natAbs % 10) :: acc := by
    intro hz; rw [hd, digs_lt (by omega)]; rfl
  have more : m.tdiv 10 ≠ 0 → digs n.natAbs = digs (m.tdiv 10).natAbs ++ (UInt8.ofNat (48 + m.natAbs % 10) :: acc) := by
    intro hz; rw [hd, digs_ge (by omega), ht]; simp
  clear hb0 hq
  by_cases hs : m.tmod 10 < 0
  · have e2 : decide (m.tmod 10 < 0) = true := decide_eq_true hs
    have e3 := neg hs
    by_cases hz : m.tdiv 10 = 0
    · have e4 : (m.tdiv 10 == 0) = true := beq_iff_eq.2 hz
      (have fx := And.intro (@e1) (And.intro (@e2) (And.intro (@e3) (@e4)))
       repeat' (first | with_reducible refine go ?_ | with_reducible refine t_region fun KT hT => ?_ | (refine gp fun KK hK => ?_; first | (refine hK _ _ ?_; clear hK KK) | (refine hK _ ?_; clear hK KK; try simp only [upd_mk]) | (refine ⟨by first | exact eq_hop, hK _ _ ?_⟩; clear hK KK) | (refine ⟨by first | exact eq_hop, hK _ (nz ?_)⟩; clear hK KK) | ((repeat refine And.intro (by first | omega | (rw [getD_map_lt (by omega)]; rfl) | (simp; first | done | omega)) ?_); first | (refine hK _ _ ?_; clear hK KK) | (refine hK _ ?_; clear hK KK; try simp only [upd_mk]))) | ((with_reducible first | refine o_nil (hT _ _ ?_) | refine h_nil (hT _ ?_)); clear hT KT) | ((first | refine gd fun AA BB hA hB => ?_ | refine tc fun AA BB hA hB => ?_); first | (refine go ?_; (first | refine hA ?_ | refine hB ?_); clear hA hB AA BB) | (refine go2 ?_ ?_ <;> intro hb <;> (first | refine hA ?_ | refine hB ?_) <;> clear hA hB AA BB <;> (try simp only [hb, decide_true, decide_false]) <;> (try (exfalso; first | (simp at hb; done) | (simp at hb; omega))))) | (with_reducible refine skS ?_; simp only [upd_mk]) | with_reducible refine tdr fun KT hT => ?_ | with_reducible refine bY ?_)
       all_goals clear fx)
      all_goals (refine fe ?_; try exact trivial)
      all_goals simp_all [fmtInt]
    · have e4 : (m.tdiv 10 == 0) = false := beq_eq_false_iff_ne.2 hz
      (have fx := And.intro (@e1) (And.intro (@e2) (And.intro (@e3) (@e4)))
       repeat' (first | with_reducible refine go ?_ | with_reducible refine t_region fun KT hT => ?_ | (refine gp fun KK hK => ?_; first | (refine hK _ _ ?_; clear hK KK) | (refine hK _ ?_; clear hK KK; try simp only [upd_mk]) | (refine ⟨by first | exact eq_hop, hK _ _ ?_⟩; clear hK KK) | (refine ⟨by first | exact eq_hop, hK _ (nz ?_)⟩; clear hK KK) | ((repeat refine And.intro (by first | omega | (rw [getD_map_lt (by omega)]; rfl) | (simp; first | done | omega)) ?_); first | (refine hK _ _ ?_; clear hK KK) | (refine hK _ ?_; clear hK KK; try simp only [upd_mk]))) | ((with_reducible first | refine o_nil (hT _ _ ?_) | refine h_nil (hT _ ?_)); clear hT KT) | ((first | refine gd fun AA BB hA hB => ?_ | refine tc fun AA BB hA hB => ?_); first | (refine go ?_; (first | refine hA ?_ | refine hB ?_); clear hA hB AA BB) | (refine go2 ?_ ?_ <;> intro hb <;> (first | refine hA ?_ | refine hB ?_) <;> clear hA hB AA BB <;> (try simp only [hb, decide_true, decide_false]) <;> (try (exfalso; first | (simp at hb; done) | (simp at hb; omega))))) | (with_reducible refine skS ?_; simp only [upd_mk]) | with_reducible refine tdr fun KT hT => ?_ | with_reducible refine bY ?_)
       all_goals clear fx)
      refine k_rnd (m.tdiv 10, UInt8.ofNat (48 + m.natAbs % 10) :: acc) (imp_freeze 17 rfl (imp_keep (by simp [Keep, mk, frzP, frz]) trivial rfl)) ⟨by omega, by omega, more hz⟩ ?_
      simp only; omega
  · have e2 : decide (m.tmod 10 < 0) = false := decide_eq_false hs
    have e3 := pos hs
    by_cases hz : m.tdiv 10 = 0
    · have e4 : (m.tdiv 10 == 0) = true := beq_iff_eq.2 hz
      (have fx := And.intro (@e1) (And.intro (@e2) (And.intro (@e3) (@e4)))
       repeat' (first | with_reducible refine go ?_ | with_reducible refine t_region fun KT hT => ?_ | (refine gp fun KK hK => ?_; first | (refine hK _ _ ?_; clear hK KK) | (refine hK _ ?_; clear hK KK; try simp only [upd_mk]) | (refine ⟨by first | exact eq_hop, hK _ _ ?_⟩; clear hK KK) | (refine ⟨by first | exact eq_hop, hK _ (nz ?_)⟩; clear hK KK) | ((repeat refine And.intro (by first | omega | (rw [getD_map_lt (by omega)]; rfl) | (simp; first | done | omega)) ?_); first | (refine hK _ _ ?_; clear hK KK) | (refine hK _ ?_; clear hK KK; try simp only [upd_mk]))) | ((with_reducible first | refine o_nil (hT _ _ ?_) | refine h_nil (hT _ ?_)); clear hT KT) | ((first | refine gd fun AA BB hA hB => ?_ | refine tc fun AA BB hA hB => ?_); first | (refine go ?_; (first | refine hA ?_ | refine hB ?_); clear hA hB AA BB) | (refine go2 ?_ ?_ <;> intro hb <;> (first | refine hA ?_ | refine hB ?_) <;> clear hA hB AA BB <;> (try simp only [hb, decide_true, decide_false]) <;> (try (exfalso; first | (simp at hb; done) | (simp at hb; omega))))) | (with_reducible refine skS ?_; simp only [upd_mk]) | with_reducible refine tdr fun KT hT => ?_ | with_reducible refine bY ?_)
       all_goals clear fx)
      all_goals (refine fe ?_; try exact trivial)
      all_goals simp_all [fmtInt]
    · have e4 : (m.tdiv 10 == 0) = false := beq_eq_false_iff_ne.2 hz
      (have fx := And.intro (@e1) (And.intro (@e2) (And.intro (@e3) (@e4)))
       repeat' (first | with_reducible refine go ?_ | with_reducible refine t_region fun KT hT => ?_ | (refine gp fun KK hK => ?_; first | (refine hK _ _ ?_; clear hK KK) | (refine hK _ ?_; clear hK KK; try simp only [upd_mk]) | (refine ⟨by first | exact eq_hop, hK _ _ ?_⟩; clear hK KK) | (refine ⟨by first | exact eq_hop, hK _ (nz ?_)⟩; clear hK KK) | ((repeat refine And.intro (by first | omega | (rw [getD_map_lt (by omega)]; rfl) | (simp; first | done | omega)) ?_); first | (refine hK _ _ ?_; clear hK KK) | (refine hK _ ?_; clear hK KK; try simp only [upd_mk]))) | ((with_reducible first | refine o_nil (hT _ _ ?_) | refine h_nil (hT _ ?_)); clear hT KT) | ((first | refine gd fun AA BB hA hB => ?_ | refine tc fun AA BB hA hB => ?_); first | (refine go ?_; (first | refine hA ?_ | refine hB ?_); clear hA hB AA BB) | (refine go2 ?_ ?_ <;> intro hb <;> (first | refine hA ?_ | refine hB ?_) <;> clear hA hB AA BB <;> (try simp only [hb, decide_true, decide_false]) <;> (try (exfalso; first | (simp at hb; done) | (simp at hb; omega))))) | (with_reducible refine skS ?_; simp only [upd_mk]) | with_reducible refine tdr fun KT hT => ?_ | with_reducible refine bY ?_)
       all_goals clear fx)
      refine k_rnd (m.tdiv 10, UInt8.ofNat (48 + m.natAbs % 10) :: acc) (imp_freeze 17 rfl (imp_keep (by simp [Keep, mk, frzP, frz]) trivial rfl)) ⟨by omega, by omega, more hz⟩ ?_
      simp only; omega

theorem fmtInt_s (n : Int) (h1 : -9223372036854775808 ≤ n) (h2 : n < 9223372036854775808) : ACall Try.prog 137 [.int .i64 n] (.str (fmtInt n)) [] := by
  by_cases h0 : n = 0
  · subst h0
    refine acall_mk Try.func137 rfl Try.ntmps137 Try.results137 (by kernel_rfl) (by simp) ?_
    simp only [args, Nat.zero_add, Nat.reduceAdd]
    repeat' (first | with_reducible refine go ?_ | with_reducible refine t_region fun KT hT => ?_ | (refine gp fun KK hK => ?_; first | (refine hK _ _ ?_; clear hK KK) | (refine hK _ ?_; clear hK KK; try simp only [upd_mk]) | (refine ⟨by first | exact eq_hop, hK _ _ ?_⟩; clear hK KK) | (refine ⟨by first | exact eq_hop, hK _ (nz ?_)⟩; clear hK KK) | ((repeat refine And.intro (by first | omega | (rw [getD_map_lt (by omega)]; rfl) | (simp; first | done | omega)) ?_); first | (refine hK _ _ ?_; clear hK KK) | (refine hK _ ?_; clear hK KK; try simp only [upd_mk]))) | ((with_reducible first | refine o_nil (hT _ _ ?_) | refine h_nil (hT _ ?_)); clear hT KT) | ((first | refine gd fun AA BB hA hB => ?_ | refine tc fun AA BB hA hB => ?_); first | (refine go ?_; (first | refine hA ?_ | refine hB ?_); clear hA hB AA BB) | (refine go2 ?_ ?_ <;> intro hb <;> (first | refine hA ?_ | refine hB ?_) <;> clear hA hB AA BB <;> (try simp only [hb, decide_true, decide_false]) <;> (try (exfalso; first | (simp at hb; done) | (simp at hb; omega))))) | (with_reducible refine skS ?_; simp only [upd_mk]) | with_reducible refine tdr fun KT hT => ?_ | with_reducible refine bY ?_)
    all_goals (refine fe ?_; try exact trivial)
    all_goals simp [fmtInt, digs]
  have e0 : (n == 0) = false := beq_eq_false_iff_ne.2 h0
  refine acall_mk Try.func137 rfl Try.ntmps137 Try.results137 (by kernel_rfl) (by simp) ?_
  simp only [args, Nat.zero_add, Nat.reduceAdd]
  (have fx := (@e0)
   repeat' (first | with_reducible refine go ?_ | with_reducible refine t_region fun KT hT => ?_ | (refine gp fun KK hK => ?_; first | (refine hK _ _ ?_; clear hK KK) | (refine hK _ ?_; clear hK KK; try simp only [upd_mk]) | (refine ⟨by first | exact eq_hop, hK _ _ ?_⟩; clear hK KK) | (refine ⟨by first | exact eq_hop, hK _ (nz ?_)⟩; clear hK KK) | ((repeat refine And.intro (by first | omega | (rw [getD_map_lt (by omega)]; rfl) | (simp; first | done | omega)) ?_); first | (refine hK _ _ ?_; clear hK KK) | (refine hK _ ?_; clear hK KK; try simp only [upd_mk]))) | ((with_reducible first | refine o_nil (hT _ _ ?_) | refine h_nil (hT _ ?_)); clear hT KT) | ((first | refine gd fun AA BB hA hB => ?_ | refine tc fun AA BB hA hB => ?_); first | (refine go ?_; (first | refine hA ?_ | refine hB ?_); clear hA hB AA BB) | (refine go2 ?_ ?_ <;> intro hb <;> (first | refine hA ?_ | refine hB ?_) <;> clear hA hB AA BB <;> (try simp only [hb, decide_true, decide_false]) <;> (try (exfalso; first | (simp at hb; done) | (simp at hb; omega))))) | (with_reducible refine skS ?_; simp only [upd_mk]) | with_reducible refine tdr fun KT hT => ?_ | with_reducible refine bY ?_)
   all_goals clear fx)
  refine t_loop (fun p : Int × List UInt8 => [(0, .int .i64 n), (4, .int .i64 p.1), (3, .str p.2)]) (fun _ => []) (fun p => -9223372036854775808 ≤ p.1 ∧ p.1 < 9223372036854775808 ∧ digs n.natAbs = (if p.1 = 0 then [] else digs p.1.natAbs) ++ p.2) (fun p => p.1.natAbs) (n, []) (imp_keep (by simp [Keep, mk]) trivial rfl) ⟨h1, h2, by simp [h0]⟩ ?_
  rintro ⟨m, acc⟩ ⟨m1, m2, hd⟩
  simp only at m1 m2 hd
  by_cases hm : m = 0
  · have e4 : (m != 0) = false := by simp [hm]
    rw [if_pos hm] at hd
    have hl : acc.length ≤ 20 := by have := digs_20 h1 h2; rw [hd] at this; simpa using this
    (have fx := (@e4)
     repeat' (first | with_reducible refine go ?_ | with_reducible refine t_region fun KT hT => ?_ | (refine gp fun KK hK => ?_; first | (refine hK _ _ ?_; clear hK KK) | (refine hK _ ?_; clear hK KK; try simp only [upd_mk]) | (refine ⟨by first | exact eq_hop, hK _ _ ?_⟩; clear hK KK) | (refine ⟨by first | exact eq_hop, hK _ (nz ?_)⟩; clear hK KK) | ((repeat refine And.intro (by first | omega | (rw [getD_map_lt (by omega)]; rfl) | (simp; first | done | omega)) ?_); first | (refine hK _ _ ?_; clear hK KK) | (refine hK _ ?_; clear hK KK; try simp only [upd_mk]))) | ((with_reducible first | refine o_nil (hT _ _ ?_) | refine h_nil (hT _ ?_)); clear hT KT) | ((first | refine gd fun AA BB hA hB => ?_ | refine tc fun AA BB hA hB => ?_); first | (refine go ?_; (first | refine hA ?_ | refine hB ?_); clear hA hB AA BB) | (refine go2 ?_ ?_ <;> intro hb <;> (first | refine hA ?_ | refine hB ?_) <;> clear hA hB AA BB <;> (try simp only [hb, decide_true, decide_false]) <;> (try (exfalso; first | (simp at hb; done) | (simp at hb; omega))))) | (with_reducible refine skS ?_; simp only [upd_mk]) | with_reducible refine tdr fun KT hT => ?_ | with_reducible refine bY ?_)
     all_goals clear fx)
    all_goals (refine fe ?_; try exact trivial)
    all_goals simp_all [fmtInt]
  have e4 : (m != 0) = true := by simp [hm]
  rw [if_neg hm] at hd
  have hl : acc.length ≤ 20 := by have := digs_20 h1 h2; rw [hd] at this; simp at this; omega
  have ht := tdiv10 m
  have e1 : IntKind.i64.wrap (m.tdiv 10) = m.tdiv 10 := wr64 (by omega) (by omega)
  have h10 : m.natAbs % 10 < 10 := Nat.mod_lt _ (by omega)
  have hq := digit (m := m)
  have hb0 := byte_of (m.natAbs % 10) h10
  have neg : m.tmod 10 < 0 → IntKind.u8.wrap (IntKind.i64.wrap (48 + IntKind.i64.wrap (0 - m.tmod 10))) = ((UInt8.ofNat (48 + m.natAbs % 10)).toNat : Int) := by
    intro hh; rw [if_pos hh] at hq; rw [Int.zero_sub, hq, wr64 (a := ((m.natAbs % 10 : Nat) : Int)) (by omega) (by omega)]; exact hb0
  have pos : ¬ m.tmod 10 < 0 → IntKind.u8.wrap (IntKind.i64.wrap (48 + m.tmod 10)) = ((UInt8.ofNat (48 + m.natAbs % 10)).toNat : Int) := by
    intro hh; rw [if_neg hh] at hq; rw [hq]; exact hb0
  have more : digs n.natAbs = (if m.tdiv 10 = 0 then [] else digs (m.tdiv 10).natAbs) ++ (UInt8.ofNat (48 + m.natAbs % 10) :: acc) := by
    by_cases hz : m.tdiv 10 = 0
    · rw [if_pos hz, hd, digs_lt (by omega)]; rfl
    · rw [if_neg hz, hd, digs_ge (by omega), ht]; simp
  clear hb0 hq
  by_cases hs : m.tmod 10 < 0
  · have e2 : decide (m.tmod 10 < 0) = true := decide_eq_true hs
    have e3 := neg hs
    (have fx := And.intro (@e1) (And.intro (@e2) (And.intro (@e3) (@e4)))
     repeat' (first | with_reducible refine go ?_ | with_reducible refine t_region fun KT hT => ?_ | (refine gp fun KK hK => ?_; first | (refine hK _ _ ?_; clear hK KK) | (refine hK _ ?_; clear hK KK; try simp only [upd_mk]) | (refine ⟨by first | exact eq_hop, hK _ _ ?_⟩; clear hK KK) | (refine ⟨by first | exact eq_hop, hK _ (nz ?_)⟩; clear hK KK) | ((repeat refine And.intro (by first | omega | (rw [getD_map_lt (by omega)]; rfl) | (simp; first | done | omega)) ?_); first | (refine hK _ _ ?_; clear hK KK) | (refine hK _ ?_; clear hK KK; try simp only [upd_mk]))) | ((with_reducible first | refine o_nil (hT _ _ ?_) | refine h_nil (hT _ ?_)); clear hT KT) | ((first | refine gd fun AA BB hA hB => ?_ | refine tc fun AA BB hA hB => ?_); first | (refine go ?_; (first | refine hA ?_ | refine hB ?_); clear hA hB AA BB) | (refine go2 ?_ ?_ <;> intro hb <;> (first | refine hA ?_ | refine hB ?_) <;> clear hA hB AA BB <;> (try simp only [hb, decide_true, decide_false]) <;> (try (exfalso; first | (simp at hb; done) | (simp at hb; omega))))) | (with_reducible refine skS ?_; simp only [upd_mk]) | with_reducible refine tdr fun KT hT => ?_ | with_reducible refine bY ?_)
     all_goals clear fx)
    refine k_rnd (m.tdiv 10, UInt8.ofNat (48 + m.natAbs % 10) :: acc) (imp_drop 22 (imp_keep (by simp [Keep, mk, scrP, scr]) trivial rfl)) ⟨by omega, by omega, more⟩ ?_
    simp only; omega
  · have e2 : decide (m.tmod 10 < 0) = false := decide_eq_false hs
    have e3 := pos hs
    (have fx := And.intro (@e1) (And.intro (@e2) (And.intro (@e3) (@e4)))
     repeat' (first | with_reducible refine go ?_ | with_reducible refine t_region fun KT hT => ?_ | (refine gp fun KK hK => ?_; first | (refine hK _ _ ?_; clear hK KK) | (refine hK _ ?_; clear hK KK; try simp only [upd_mk]) | (refine ⟨by first | exact eq_hop, hK _ _ ?_⟩; clear hK KK) | (refine ⟨by first | exact eq_hop, hK _ (nz ?_)⟩; clear hK KK) | ((repeat refine And.intro (by first | omega | (rw [getD_map_lt (by omega)]; rfl) | (simp; first | done | omega)) ?_); first | (refine hK _ _ ?_; clear hK KK) | (refine hK _ ?_; clear hK KK; try simp only [upd_mk]))) | ((with_reducible first | refine o_nil (hT _ _ ?_) | refine h_nil (hT _ ?_)); clear hT KT) | ((first | refine gd fun AA BB hA hB => ?_ | refine tc fun AA BB hA hB => ?_); first | (refine go ?_; (first | refine hA ?_ | refine hB ?_); clear hA hB AA BB) | (refine go2 ?_ ?_ <;> intro hb <;> (first | refine hA ?_ | refine hB ?_) <;> clear hA hB AA BB <;> (try simp only [hb, decide_true, decide_false]) <;> (try (exfalso; first | (simp at hb; done) | (simp at hb; omega))))) | (with_reducible refine skS ?_; simp only [upd_mk]) | with_reducible refine tdr fun KT hT => ?_ | with_reducible refine bY ?_)
     all_goals clear fx)
    refine k_rnd (m.tdiv 10, UInt8.ofNat (48 + m.natAbs % 10) :: acc) (imp_drop 22 (imp_keep (by simp [Keep, mk, scrP, scr]) trivial rfl)) ⟨by omega, by omega, more⟩ ?_
    simp only; omega

end Go.Proofs.Ytmiclkgkfkcnoaa
