/- The functions of this program, walked by the evaluator: part x, 1. -/
import Derived.Test.YtmiclkgkfkcnoaaLa1
import Derived.Test.YtmiclkgkfkcnoaaLD
namespace Go.Proofs.Ytmiclkgkfkcnoaa
open Go.RowKit
set_option linter.unusedSimpArgs false
set_option linter.unusedVariables false
set_option maxRecDepth 100000
set_option linter.defProp false
namespace GLx1
def gx := And.intro (@hopRow.eq_1) (And.intro (@polRow.eq_1) (And.intro (@segRow.eq_1) (And.intro (@intRow.eq_1) (And.intro (@rowLen_ints) (And.intro (@rowLen_nil) (And.intro (@rowLen_cons) (And.intro (@rowLen_append) (And.intro (@lenL_app) (And.intro (@byteRow.eq_1) (And.intro (@rowLen_bytes) (And.intro (@bytesOf_map) (And.intro (@bytesOf_cons) (And.intro (@bytesOf_one) (And.intro (@rowLen_strs) (And.intro (@asRow.eq_1) (And.intro (@lkRow.eq_1) (And.intro (@tpRow.eq_1) (And.intro (@rowLen_hops) (And.intro (@rowLen_ases) (And.intro (@rowLen_links) (And.intro (@bcRow.eq_1) (And.intro (@rowLen_bcs) (@u8Row.eq_1)))))))))))))))))))))))
end GLx1
open GLx1
set_option maxHeartbeats 4000000 in
theorem readV_i (b : List UInt8) (i : Int) (hb : b.length ≤ 1073741824) : ACall Try.prog 200 [.sl (b.map byteRow), .int .i64 i] (.tup (rdD (readV b i))) [] := by
  rcases Int.lt_or_le i 0 with h0 | h0
  · have e0 : decide (i < 0) = true := decide_eq_true h0
    have er : readV b i = none := by rw [readV, if_pos h0]
    refine acall_mk Try.func200 rfl Try.ntmps200 Try.results200 (by kernel_rfl) (by simp) ?_
    simp only [args, Nat.zero_add, Nat.reduceAdd]
    (have fx := (@e0)
     repeat' (first | with_reducible refine go ?_ | with_reducible refine t_region fun KT hT => ?_ | (refine gp fun KK hK => ?_; first | (refine hK _ _ ?_; clear hK KK) | (refine hK _ ?_; clear hK KK; try simp only [upd_mk]) | (refine ⟨by first | exact eq_hop, hK _ _ ?_⟩; clear hK KK) | (refine ⟨by first | exact eq_hop, hK _ (nz ?_)⟩; clear hK KK) | ((repeat refine And.intro (by first | omega | (rw [getD_map_lt (by omega)]; rfl) | (simp; first | done | omega)) ?_); first | (refine hK _ _ ?_; clear hK KK) | (refine hK _ ?_; clear hK KK; try simp only [upd_mk]))) | ((with_reducible first | refine o_nil (hT _ _ ?_) | refine h_nil (hT _ ?_)); clear hT KT) | ((first | refine gd fun AA BB hA hB => ?_ | refine tc fun AA BB hA hB => ?_); first | (refine go ?_; (first | refine hA ?_ | refine hB ?_); clear hA hB AA BB) | (refine go2 ?_ ?_ <;> intro hb <;> (first | refine hA ?_ | refine hB ?_) <;> clear hA hB AA BB <;> (try simp only [hb, decide_true, decide_false]) <;> (try (exfalso; first | (simp at hb; done) | (simp at hb; omega))))) | (with_reducible refine skS ?_; simp only [upd_mk]) | with_reducible refine tdr fun KT hT => ?_ | with_reducible refine bY ?_)
     all_goals clear fx)
    (refine fe ?_; try exact trivial)
    simp [er, rdD]
  · obtain ⟨a, rfl⟩ : ∃ a : Nat, i = (a : Int) := ⟨i.toNat, by omega⟩
    have e0 : decide ((a : Int) < 0) = false := decide_eq_false (by omega)
    have er : readV b (a : Int) = rdGo b a 6 0 0 := by rw [readV, if_neg (by omega)]; rfl
    refine acall_mk Try.func200 rfl Try.ntmps200 Try.results200 (by kernel_rfl) (by simp) ?_
    simp only [args, Nat.zero_add, Nat.reduceAdd]
    (have fx := (@e0)
     repeat' (first | with_reducible refine go ?_ | with_reducible refine t_region fun KT hT => ?_ | (refine gp fun KK hK => ?_; first | (refine hK _ _ ?_; clear hK KK) | (refine hK _ ?_; clear hK KK; try simp only [upd_mk]) | (refine ⟨by first | exact eq_hop, hK _ _ ?_⟩; clear hK KK) | (refine ⟨by first | exact eq_hop, hK _ (nz ?_)⟩; clear hK KK) | ((repeat refine And.intro (by first | omega | (rw [getD_map_lt (by omega)]; rfl) | (simp; first | done | omega)) ?_); first | (refine hK _ _ ?_; clear hK KK) | (refine hK _ ?_; clear hK KK; try simp only [upd_mk]))) | ((with_reducible first | refine o_nil (hT _ _ ?_) | refine h_nil (hT _ ?_)); clear hT KT) | ((first | refine gd fun AA BB hA hB => ?_ | refine tc fun AA BB hA hB => ?_); first | (refine go ?_; (first | refine hA ?_ | refine hB ?_); clear hA hB AA BB) | (refine go2 ?_ ?_ <;> intro hb <;> (first | refine hA ?_ | refine hB ?_) <;> clear hA hB AA BB <;> (try simp only [hb, decide_true, decide_false]) <;> (try (exfalso; first | (simp at hb; done) | (simp at hb; omega))))) | (with_reducible refine skS ?_; simp only [upd_mk]) | with_reducible refine tdr fun KT hT => ?_ | with_reducible refine bY ?_)
     all_goals clear fx)
    refine t_loop (fun q : Nat × Nat => [(0, .sl (b.map byteRow)), (1, .int .i64 ((a + q.1 : Nat) : Int)), (7, .int .i64 (q.2 : Int)), (8, .int .i64 (q.1 : Int))]) (fun _ => []) (fun q => q.1 ≤ 6 ∧ q.2 < 2 ^ (7 * q.1) ∧ readV b a = rdGo b a (6 - q.1) q.1 q.2) (fun q => 6 - q.1) (0, 0) (imp_keep (by simp [Keep, mk]) trivial rfl) ⟨by simp, by simp, by simpa using er⟩ ?_
    rintro ⟨k, n⟩ ⟨hk, hn, hr⟩
    simp only at hk hn hr
    rcases Nat.lt_or_ge k 6 with h | h
    · have e1 : decide ((k : Int) < 6) = true := decide_eq_true (by omega)
      rcases Nat.lt_or_ge (a + k) b.length with h' | h'
      · have e3 := getD_map_lt (f := byteRow) h'
        have hx : b[a + k].toNat < 256 := UInt8.toNat_lt _
        rw [show 6 - k = (5 - k) + 1 by omega, rdGo_step _ _ h'] at hr
        simp only [byteRow] at e3
        generalize b[a + k].toNat = x at *
        have e2 : decide (((a + k : Nat) : Int) < (b.length : Int)) = true := decide_eq_true (by omega)
        have wx : IntKind.i64.wrap (x : Int) = (x : Int) := wr64 (by omega) (by omega)
        obtain ⟨hn1, hn2⟩ := n7 h hn hx
        have wt := tmod128 x
        have w7 : IntKind.i64.wrap (7 * (k : Int)) = ((7 * k : Nat) : Int) := by rw [wr64 (by omega) (by omega)]; omega
        have w8 : IntKind.u64.wrap ((7 * k : Nat) : Int) = ((7 * k : Nat) : Int) := by
          have : k = 0 ∨ k = 1 ∨ k = 2 ∨ k = 3 ∨ k = 4 ∨ k = 5 := by omega
          rcases this with rfl | rfl | rfl | rfl | rfl | rfl <;> decide
        have wm : min (7 * k) IntKind.i64.bits = 7 * k := by rw [show IntKind.i64.bits = 64 from rfl]; omega
        have ws := shl7 h hx
        have wn : IntKind.i64.wrap ((n : Int) + ((x % 128 * 2 ^ (7 * k) : Nat) : Int)) = ((n + x % 128 * 2 ^ (7 * k) : Nat) : Int) := by rw [wr64 (by omega) (by omega)]; omega
        have wa : IntKind.i64.wrap (((a + k : Nat) : Int) + 1) = ((a + (k + 1) : Nat) : Int) := by rw [wr64 (by omega) (by omega)]; omega
        generalize hy : x % 128 * 2 ^ (7 * k) = y at *
        rcases Nat.lt_or_ge x 128 with h8 | h8
        · have e4 : decide ((x : Int) < 128) = true := decide_eq_true (by omega)
          rw [if_pos h8] at hr
          (have fx := And.intro (@e0) (And.intro (@e1) (And.intro (@e2) (And.intro (@e3) (And.intro (@wx) (And.intro (@wt) (And.intro (@w7) (And.intro (@w8) (And.intro (@wm) (And.intro (@ws) (And.intro (@wn) (And.intro (@wa) (And.intro (@h') (@e4)))))))))))))
           repeat' (first | with_reducible refine go ?_ | with_reducible refine t_region fun KT hT => ?_ | (refine gp fun KK hK => ?_; first | (refine hK _ _ ?_; clear hK KK) | (refine hK _ ?_; clear hK KK; try simp only [upd_mk]) | (refine ⟨by first | exact eq_hop, hK _ _ ?_⟩; clear hK KK) | (refine ⟨by first | exact eq_hop, hK _ (nz ?_)⟩; clear hK KK) | ((repeat refine And.intro (by first | omega | (rw [getD_map_lt (by omega)]; rfl) | (simp; first | done | omega)) ?_); first | (refine hK _ _ ?_; clear hK KK) | (refine hK _ ?_; clear hK KK; try simp only [upd_mk]))) | ((with_reducible first | refine o_nil (hT _ _ ?_) | refine h_nil (hT _ ?_)); clear hT KT) | ((first | refine gd fun AA BB hA hB => ?_ | refine tc fun AA BB hA hB => ?_); first | (refine go ?_; (first | refine hA ?_ | refine hB ?_); clear hA hB AA BB) | (refine go2 ?_ ?_ <;> intro hb <;> (first | refine hA ?_ | refine hB ?_) <;> clear hA hB AA BB <;> (try simp only [hb, decide_true, decide_false]) <;> (try (exfalso; first | (simp at hb; done) | (simp at hb; omega))))) | (with_reducible refine skS ?_; simp only [upd_mk]) | with_reducible refine tdr fun KT hT => ?_ | with_reducible refine bY ?_)
           all_goals clear fx)
          all_goals (refine fe ?_; try exact trivial)
          all_goals rw [hr]
          all_goals clear hr er e3 ws wn wt
          all_goals simp only [decide_eq_true_eq, decide_eq_false_iff_not, beq_iff_eq, beq_eq_false_iff_ne, ne_eq] at *
          all_goals first
            | (rw [if_pos (by omega)]; rfl)
            | (rw [if_neg (by omega)]; rfl)
        · have e4 : decide ((x : Int) < 128) = false := decide_eq_false (by omega)
          rw [if_neg (by omega)] at hr
          (have fx := And.intro (@e0) (And.intro (@e1) (And.intro (@e2) (And.intro (@e3) (And.intro (@wx) (And.intro (@wt) (And.intro (@w7) (And.intro (@w8) (And.intro (@wm) (And.intro (@ws) (And.intro (@wn) (And.intro (@wa) (And.intro (@h') (@e4)))))))))))))
           repeat' (first | with_reducible refine go ?_ | with_reducible refine t_region fun KT hT => ?_ | (refine gp fun KK hK => ?_; first | (refine hK _ _ ?_; clear hK KK) | (refine hK _ ?_; clear hK KK; try simp only [upd_mk]) | (refine ⟨by first | exact eq_hop, hK _ _ ?_⟩; clear hK KK) | (refine ⟨by first | exact eq_hop, hK _ (nz ?_)⟩; clear hK KK) | ((repeat refine And.intro (by first | omega | (rw [getD_map_lt (by omega)]; rfl) | (simp; first | done | omega)) ?_); first | (refine hK _ _ ?_; clear hK KK) | (refine hK _ ?_; clear hK KK; try simp only [upd_mk]))) | ((with_reducible first | refine o_nil (hT _ _ ?_) | refine h_nil (hT _ ?_)); clear hT KT) | ((first | refine gd fun AA BB hA hB => ?_ | refine tc fun AA BB hA hB => ?_); first | (refine go ?_; (first | refine hA ?_ | refine hB ?_); clear hA hB AA BB) | (refine go2 ?_ ?_ <;> intro hb <;> (first | refine hA ?_ | refine hB ?_) <;> clear hA hB AA BB <;> (try simp only [hb, decide_true, decide_false]) <;> (try (exfalso; first | (simp at hb; done) | (simp at hb; omega))))) | (with_reducible refine skS ?_; simp only [upd_mk]) | with_reducible refine tdr fun KT hT => ?_ | with_reducible refine bY ?_)
           all_goals clear fx)
          refine k_rnd (k + 1, n + y) (imp_keep ?_ trivial rfl) ⟨h, hn1, by rw [hr]; congr 1; omega⟩ (by simp only; omega)
          simp [Keep, mk, wrapS (show k < 4611686018427387904 by omega)]
      · rw [rdGo_end _ _ (by omega)] at hr
        have e2 : decide (((a + k : Nat) : Int) < (b.length : Int)) = false := decide_eq_false (by omega)
        (have fx := And.intro (@e0) (And.intro (@e1) (@e2))
         repeat' (first | with_reducible refine go ?_ | with_reducible refine t_region fun KT hT => ?_ | (refine gp fun KK hK => ?_; first | (refine hK _ _ ?_; clear hK KK) | (refine hK _ ?_; clear hK KK; try simp only [upd_mk]) | (refine ⟨by first | exact eq_hop, hK _ _ ?_⟩; clear hK KK) | (refine ⟨by first | exact eq_hop, hK _ (nz ?_)⟩; clear hK KK) | ((repeat refine And.intro (by first | omega | (rw [getD_map_lt (by omega)]; rfl) | (simp; first | done | omega)) ?_); first | (refine hK _ _ ?_; clear hK KK) | (refine hK _ ?_; clear hK KK; try simp only [upd_mk]))) | ((with_reducible first | refine o_nil (hT _ _ ?_) | refine h_nil (hT _ ?_)); clear hT KT) | ((first | refine gd fun AA BB hA hB => ?_ | refine tc fun AA BB hA hB => ?_); first | (refine go ?_; (first | refine hA ?_ | refine hB ?_); clear hA hB AA BB) | (refine go2 ?_ ?_ <;> intro hb <;> (first | refine hA ?_ | refine hB ?_) <;> clear hA hB AA BB <;> (try simp only [hb, decide_true, decide_false]) <;> (try (exfalso; first | (simp at hb; done) | (simp at hb; omega))))) | (with_reducible refine skS ?_; simp only [upd_mk]) | with_reducible refine tdr fun KT hT => ?_ | with_reducible refine bY ?_)
         all_goals clear fx)
        (refine fe ?_; try exact trivial)
        rw [hr]; rfl
    · obtain rfl : k = 6 := by omega
      have e1 : decide (((6 : Nat) : Int) < 6) = false := by decide
      (have fx := (@e1)
       repeat' (first | with_reducible refine go ?_ | with_reducible refine t_region fun KT hT => ?_ | (refine gp fun KK hK => ?_; first | (refine hK _ _ ?_; clear hK KK) | (refine hK _ ?_; clear hK KK; try simp only [upd_mk]) | (refine ⟨by first | exact eq_hop, hK _ _ ?_⟩; clear hK KK) | (refine ⟨by first | exact eq_hop, hK _ (nz ?_)⟩; clear hK KK) | ((repeat refine And.intro (by first | omega | (rw [getD_map_lt (by omega)]; rfl) | (simp; first | done | omega)) ?_); first | (refine hK _ _ ?_; clear hK KK) | (refine hK _ ?_; clear hK KK; try simp only [upd_mk]))) | ((with_reducible first | refine o_nil (hT _ _ ?_) | refine h_nil (hT _ ?_)); clear hT KT) | ((first | refine gd fun AA BB hA hB => ?_ | refine tc fun AA BB hA hB => ?_); first | (refine go ?_; (first | refine hA ?_ | refine hB ?_); clear hA hB AA BB) | (refine go2 ?_ ?_ <;> intro hb <;> (first | refine hA ?_ | refine hB ?_) <;> clear hA hB AA BB <;> (try simp only [hb, decide_true, decide_false]) <;> (try (exfalso; first | (simp at hb; done) | (simp at hb; omega))))) | (with_reducible refine skS ?_; simp only [upd_mk]) | with_reducible refine tdr fun KT hT => ?_ | with_reducible refine bY ?_)
       all_goals clear fx)
      (refine fe ?_; try exact trivial)
      rw [hr]; rfl

set_option maxHeartbeats 4000000 in
theorem readV_s (b : List UInt8) (i : Int) (hb : b.length ≤ 1073741824) : ACall Try.prog 201 [.sl (b.map byteRow), .int .i64 i] (.tup (rdD (readV b i))) [] := by
  rcases Int.lt_or_le i 0 with h0 | h0
  · have e0 : decide (i < 0) = true := decide_eq_true h0
    have er : readV b i = none := by rw [readV, if_pos h0]
    refine acall_mk Try.func201 rfl Try.ntmps201 Try.results201 (by kernel_rfl) (by simp) ?_
    simp only [args, Nat.zero_add, Nat.reduceAdd]
    (have fx := (@e0)
     repeat' (first | with_reducible refine go ?_ | with_reducible refine t_region fun KT hT => ?_ | (refine gp fun KK hK => ?_; first | (refine hK _ _ ?_; clear hK KK) | (refine hK _ ?_; clear hK KK; try simp only [upd_mk]) | (refine ⟨by first | exact eq_hop, hK _ _ ?_⟩; clear hK KK) | (refine ⟨by first | exact eq_hop, hK _ (nz ?_)⟩; clear hK KK) | ((repeat refine And.intro (by first | omega | (rw [getD_map_lt (by omega)]; rfl) | (simp; first | done | omega)) ?_); first | (refine hK _ _ ?_; clear hK KK) | (refine hK _ ?_; clear hK KK; try simp only [upd_mk]))) | ((with_reducible first | refine o_nil (hT _ _ ?_) | refine h_nil (hT _ ?_)); clear hT KT) | ((first | refine gd fun AA BB hA hB => ?_ | refine tc fun AA BB hA hB => ?_); first | (refine go ?_; (first | refine hA ?_ | refine hB ?_); clear hA hB AA BB) | (refine go2 ?_ ?_ <;> intro hb <;> (first | refine hA ?_ | refine hB ?_) <;> clear hA hB AA BB <;> (try simp only [hb, decide_true, decide_false]) <;> (try (exfalso; first | (simp at hb; done) | (simp at hb; omega))))) | (with_reducible refine skS ?_; simp only [upd_mk]) | with_reducible refine tdr fun KT hT => ?_ | with_reducible refine bY ?_)
     all_goals clear fx)
    refine t_loop (fun _ : Unit => [(0, .sl (b.map byteRow)), (1, .int .i64 i), (7, .int .i64 0), (8, .int .i64 0)]) (fun _ => []) (fun _ => True) (fun _ => 0) () (imp_keep (by simp [Keep, mk]) trivial rfl) trivial ?_
    rintro _ _
    (have fx := (@e0)
     repeat' (first | with_reducible refine go ?_ | with_reducible refine t_region fun KT hT => ?_ | (refine gp fun KK hK => ?_; first | (refine hK _ _ ?_; clear hK KK) | (refine hK _ ?_; clear hK KK; try simp only [upd_mk]) | (refine ⟨by first | exact eq_hop, hK _ _ ?_⟩; clear hK KK) | (refine ⟨by first | exact eq_hop, hK _ (nz ?_)⟩; clear hK KK) | ((repeat refine And.intro (by first | omega | (rw [getD_map_lt (by omega)]; rfl) | (simp; first | done | omega)) ?_); first | (refine hK _ _ ?_; clear hK KK) | (refine hK _ ?_; clear hK KK; try simp only [upd_mk]))) | ((with_reducible first | refine o_nil (hT _ _ ?_) | refine h_nil (hT _ ?_)); clear hT KT) | ((first | refine gd fun AA BB hA hB => ?_ | refine tc fun AA BB hA hB => ?_); first | (refine go ?_; (first | refine hA ?_ | refine hB ?_); clear hA hB AA BB) | (refine go2 ?_ ?_ <;> intro hb <;> (first | refine hA ?_ | refine hB ?_) <;> clear hA hB AA BB <;> (try simp only [hb, decide_true, decide_false]) <;> (try (exfalso; first | (simp at hb; done) | (simp at hb; omega))))) | (with_reducible refine skS ?_; simp only [upd_mk]) | with_reducible refine tdr fun KT hT => ?_ | with_reducible refine bY ?_)
     all_goals clear fx)
    (refine fe ?_; try exact trivial)
    simp [er, rdD]
  · obtain ⟨a, rfl⟩ : ∃ a : Nat, i = (a : Int) := ⟨i.toNat, by omega⟩
    have e0 : decide ((a : Int) < 0) = false := decide_eq_false (by omega)
    have er : readV b (a : Int) = rdGo b a 6 0 0 := by rw [readV, if_neg (by omega)]; rfl
    refine acall_mk Try.func201 rfl Try.ntmps201 Try.results201 (by kernel_rfl) (by simp) ?_
    simp only [args, Nat.zero_add, Nat.reduceAdd]
    (have fx := (@e0)
     repeat' (first | with_reducible refine go ?_ | with_reducible refine t_region fun KT hT => ?_ | (refine gp fun KK hK => ?_; first | (refine hK _ _ ?_; clear hK KK) | (refine hK _ ?_; clear hK KK; try simp only [upd_mk]) | (refine ⟨by first | exact eq_hop, hK _ _ ?_⟩; clear hK KK) | (refine ⟨by first | exact eq_hop, hK _ (nz ?_)⟩; clear hK KK) | ((repeat refine And.intro (by first | omega | (rw [getD_map_lt (by omega)]; rfl) | (simp; first | done | omega)) ?_); first | (refine hK _ _ ?_; clear hK KK) | (refine hK _ ?_; clear hK KK; try simp only [upd_mk]))) | ((with_reducible first | refine o_nil (hT _ _ ?_) | refine h_nil (hT _ ?_)); clear hT KT) | ((first | refine gd fun AA BB hA hB => ?_ | refine tc fun AA BB hA hB => ?_); first | (refine go ?_; (first | refine hA ?_ | refine hB ?_); clear hA hB AA BB) | (refine go2 ?_ ?_ <;> intro hb <;> (first | refine hA ?_ | refine hB ?_) <;> clear hA hB AA BB <;> (try simp only [hb, decide_true, decide_false]) <;> (try (exfalso; first | (simp at hb; done) | (simp at hb; omega))))) | (with_reducible refine skS ?_; simp only [upd_mk]) | with_reducible refine tdr fun KT hT => ?_ | with_reducible refine bY ?_)
     all_goals clear fx)
    refine t_loop (fun q : Nat × Nat => [(0, .sl (b.map byteRow)), (1, .int .i64 (a : Int)), (7, .int .i64 (q.2 : Int)), (8, .int .i64 (q.1 : Int))]) (fun _ => []) (fun q => q.1 ≤ 6 ∧ q.2 < 2 ^ (7 * q.1) ∧ readV b a = rdGo b a (6 - q.1) q.1 q.2) (fun q => 6 - q.1) (0, 0) (imp_keep (by simp [Keep, mk]) trivial rfl) ⟨by simp, by simp, by simpa using er⟩ ?_
    rintro ⟨k, n⟩ ⟨hk, hn, hr⟩
    simp only at hk hn hr
    rcases Nat.lt_or_ge k 6 with h | h
    · have e1 : decide ((k : Int) < 6) = true := decide_eq_true (by omega)
      rcases Nat.lt_or_ge (a + k) b.length with h' | h'
      · have e3 := getD_map_lt (f := byteRow) h'
        have hx : b[a + k].toNat < 256 := UInt8.toNat_lt _
        rw [show 6 - k = (5 - k) + 1 by omega, rdGo_step _ _ h'] at hr
        simp only [byteRow] at e3
        generalize b[a + k].toNat = x at *
        have e2 : decide ((b.length : Int) - (k : Int) ≤ (a : Int)) = false := decide_eq_false (by omega)
        have wl : IntKind.i64.wrap ((b.length : Int) - (k : Int)) = (b.length : Int) - (k : Int) := wr64 (by omega) (by omega)
        have wak : IntKind.i64.wrap ((a : Int) + (k : Int)) = ((a + k : Nat) : Int) := by rw [wr64 (by omega) (by omega)]; omega
        have wx : IntKind.i64.wrap (x : Int) = (x : Int) := wr64 (by omega) (by omega)
        obtain ⟨hn1, hn2⟩ := n7 h hn hx
        have wt := and127 x (by omega)
        have w7 : IntKind.i64.wrap (7 * (k : Int)) = ((7 * k : Nat) : Int) := by rw [wr64 (by omega) (by omega)]; omega
        have w8 : IntKind.u64.wrap ((7 * k : Nat) : Int) = ((7 * k : Nat) : Int) := by
          have : k = 0 ∨ k = 1 ∨ k = 2 ∨ k = 3 ∨ k = 4 ∨ k = 5 := by omega
          rcases this with rfl | rfl | rfl | rfl | rfl | rfl <;> decide
        have wm : min (7 * k) IntKind.i64.bits = 7 * k := by rw [show IntKind.i64.bits = 64 from rfl]; omega
        have ws := shl7 h hx
        have wn := or7 (y := x % 128) hn (by omega)
        have wa : IntKind.i64.wrap (((a + k : Nat) : Int) + 1) = ((a + k + 1 : Nat) : Int) := by rw [wr64 (by omega) (by omega)]; omega
        generalize hy : x % 128 * 2 ^ (7 * k) = y at *
        rcases Nat.lt_or_ge x 128 with h8 | h8
        · have e4 : decide ((x : Int) < 128) = true := decide_eq_true (by omega)
          rw [if_pos h8] at hr
          (have fx := And.intro (@e0) (And.intro (@e1) (And.intro (@e2) (And.intro (@e3) (And.intro (@wl) (And.intro (@wak) (And.intro (@wx) (And.intro (@wt) (And.intro (@w7) (And.intro (@wm) (And.intro (@ws) (And.intro (@wn) (And.intro (@wa) (And.intro (@h') (@e4))))))))))))))
           repeat' (first | with_reducible refine go ?_ | with_reducible refine t_region fun KT hT => ?_ | (refine gp fun KK hK => ?_; first | (refine hK _ _ ?_; clear hK KK) | (refine hK _ ?_; clear hK KK; try simp only [upd_mk]) | (refine ⟨by first | exact eq_hop, hK _ _ ?_⟩; clear hK KK) | (refine ⟨by first | exact eq_hop, hK _ (nz ?_)⟩; clear hK KK) | ((repeat refine And.intro (by first | omega | (rw [getD_map_lt (by omega)]; rfl) | (simp; first | done | omega)) ?_); first | (refine hK _ _ ?_; clear hK KK) | (refine hK _ ?_; clear hK KK; try simp only [upd_mk]))) | ((with_reducible first | refine o_nil (hT _ _ ?_) | refine h_nil (hT _ ?_)); clear hT KT) | ((first | refine gd fun AA BB hA hB => ?_ | refine tc fun AA BB hA hB => ?_); first | (refine go ?_; (first | refine hA ?_ | refine hB ?_); clear hA hB AA BB) | (refine go2 ?_ ?_ <;> intro hb <;> (first | refine hA ?_ | refine hB ?_) <;> clear hA hB AA BB <;> (try simp only [hb, decide_true, decide_false]) <;> (try (exfalso; first | (simp at hb; done) | (simp at hb; omega))))) | (with_reducible refine skS ?_; simp only [upd_mk]) | with_reducible refine tdr fun KT hT => ?_ | with_reducible refine bY ?_)
           all_goals clear fx)
          all_goals (refine fe ?_; try exact trivial)
          all_goals rw [hr]
          all_goals clear hr er e3 ws wn wt
          all_goals simp only [decide_eq_true_eq, decide_eq_false_iff_not, beq_iff_eq, beq_eq_false_iff_ne, ne_eq] at *
          all_goals first
            | (rw [if_pos (by omega)]; rfl)
            | (rw [if_neg (by omega)]; rfl)
        · have e4 : decide ((x : Int) < 128) = false := decide_eq_false (by omega)
          rw [if_neg (by omega)] at hr
          (have fx := And.intro (@e0) (And.intro (@e1) (And.intro (@e2) (And.intro (@e3) (And.intro (@wl) (And.intro (@wak) (And.intro (@wx) (And.intro (@wt) (And.intro (@w7) (And.intro (@wm) (And.intro (@ws) (And.intro (@wn) (And.intro (@wa) (And.intro (@h') (@e4))))))))))))))
           repeat' (first | with_reducible refine go ?_ | with_reducible refine t_region fun KT hT => ?_ | (refine gp fun KK hK => ?_; first | (refine hK _ _ ?_; clear hK KK) | (refine hK _ ?_; clear hK KK; try simp only [upd_mk]) | (refine ⟨by first | exact eq_hop, hK _ _ ?_⟩; clear hK KK) | (refine ⟨by first | exact eq_hop, hK _ (nz ?_)⟩; clear hK KK) | ((repeat refine And.intro (by first | omega | (rw [getD_map_lt (by omega)]; rfl) | (simp; first | done | omega)) ?_); first | (refine hK _ _ ?_; clear hK KK) | (refine hK _ ?_; clear hK KK; try simp only [upd_mk]))) | ((with_reducible first | refine o_nil (hT _ _ ?_) | refine h_nil (hT _ ?_)); clear hT KT) | ((first | refine gd fun AA BB hA hB => ?_ | refine tc fun AA BB hA hB => ?_); first | (refine go ?_; (first | refine hA ?_ | refine hB ?_); clear hA hB AA BB) | (refine go2 ?_ ?_ <;> intro hb <;> (first | refine hA ?_ | refine hB ?_) <;> clear hA hB AA BB <;> (try simp only [hb, decide_true, decide_false]) <;> (try (exfalso; first | (simp at hb; done) | (simp at hb; omega))))) | (with_reducible refine skS ?_; simp only [upd_mk]) | with_reducible refine tdr fun KT hT => ?_ | with_reducible refine bY ?_)
           all_goals clear fx)
          refine k_rnd (k + 1, n + y) (imp_keep ?_ trivial rfl) ⟨h, hn1, by rw [hr]; congr 1; omega⟩ (by simp only; omega)
          simp [Keep, mk, wrapS (show k < 4611686018427387904 by omega)]
      · rw [rdGo_end _ _ (by omega)] at hr
        have e2 : decide ((b.length : Int) - (k : Int) ≤ (a : Int)) = true := decide_eq_true (by omega)
        have wl : IntKind.i64.wrap ((b.length : Int) - (k : Int)) = (b.length : Int) - (k : Int) := wr64 (by omega) (by omega)
        (have fx := And.intro (@e0) (And.intro (@e1) (And.intro (@e2) (@wl)))
         repeat' (first | with_reducible refine go ?_ | with_reducible refine t_region fun KT hT => ?_ | (refine gp fun KK hK => ?_; first | (refine hK _ _ ?_; clear hK KK) | (refine hK _ ?_; clear hK KK; try simp only [upd_mk]) | (refine ⟨by first | exact eq_hop, hK _ _ ?_⟩; clear hK KK) | (refine ⟨by first | exact eq_hop, hK _ (nz ?_)⟩; clear hK KK) | ((repeat refine And.intro (by first | omega | (rw [getD_map_lt (by omega)]; rfl) | (simp; first | done | omega)) ?_); first | (refine hK _ _ ?_; clear hK KK) | (refine hK _ ?_; clear hK KK; try simp only [upd_mk]))) | ((with_reducible first | refine o_nil (hT _ _ ?_) | refine h_nil (hT _ ?_)); clear hT KT) | ((first | refine gd fun AA BB hA hB => ?_ | refine tc fun AA BB hA hB => ?_); first | (refine go ?_; (first | refine hA ?_ | refine hB ?_); clear hA hB AA BB) | (refine go2 ?_ ?_ <;> intro hb <;> (first | refine hA ?_ | refine hB ?_) <;> clear hA hB AA BB <;> (try simp only [hb, decide_true, decide_false]) <;> (try (exfalso; first | (simp at hb; done) | (simp at hb; omega))))) | (with_reducible refine skS ?_; simp only [upd_mk]) | with_reducible refine tdr fun KT hT => ?_ | with_reducible refine bY ?_)
         all_goals clear fx)
        (refine fe ?_; try exact trivial)
        rw [hr]; rfl
    · obtain rfl : k = 6 := by omega
      have e1 : decide (((6 : Nat) : Int) < 6) = false := by decide
      (have fx := (@e1)
       repeat' (first | with_reducible refine go ?_ | with_reducible refine t_region fun KT hT => ?_ | (refine gp fun KK hK => ?_; first | (refine hK _ _ ?_; clear hK KK) | (refine hK _ ?_; clear hK KK; try simp only [upd_mk]) | (refine ⟨by first | exact eq_hop, hK _ _ ?_⟩; clear hK KK) | (refine ⟨by first | exact eq_hop, hK _ (nz ?_)⟩; clear hK KK) | ((repeat refine And.intro (by first | omega | (rw [getD_map_lt (by omega)]; rfl) | (simp; first | done | omega)) ?_); first | (refine hK _ _ ?_; clear hK KK) | (refine hK _ ?_; clear hK KK; try simp only [upd_mk]))) | ((with_reducible first | refine o_nil (hT _ _ ?_) | refine h_nil (hT _ ?_)); clear hT KT) | ((first | refine gd fun AA BB hA hB => ?_ | refine tc fun AA BB hA hB => ?_); first | (refine go ?_; (first | refine hA ?_ | refine hB ?_); clear hA hB AA BB) | (refine go2 ?_ ?_ <;> intro hb <;> (first | refine hA ?_ | refine hB ?_) <;> clear hA hB AA BB <;> (try simp only [hb, decide_true, decide_false]) <;> (try (exfalso; first | (simp at hb; done) | (simp at hb; omega))))) | (with_reducible refine skS ?_; simp only [upd_mk]) | with_reducible refine tdr fun KT hT => ?_ | with_reducible refine bY ?_)
       all_goals clear fx)
      (refine fe ?_; try exact trivial)
      rw [hr]; rfl
def decGo (b : List UInt8) : Nat → Nat → Option (List Int × Nat)
  | 0, a => some ([], a)
  | m + 1, a => match readV b a with
    | none => none
    | some (x, e) => (decGo b m e).map fun r => ((x : Int) :: r.1, r.2)
def decI (b : List UInt8) (i : Int) (m : Nat) : Option (List Int × Nat) := if inR i 0 b.length then decGo b m i.toNat else none
def decD : Option (List Int × Nat) → List D
  | none => [.sl [], .int .i64 0, .bool false]
  | some (l, e) => [.sl (l.map intRow), .int .i64 e, .bool true]
theorem decGo_len {b : List UInt8} : ∀ {m a : Nat} {l : List Int} {e : Nat}, decGo b m a = some (l, e) → l.length = m
  | 0, a, l, e, h => by simp [decGo] at h; simp [← h.1]
  | m + 1, a, l, e, h => by
    unfold decGo at h
    split at h
    · cases h
    · rename_i x z hz
      simp only [Option.map_eq_some_iff] at h
      obtain ⟨⟨l', e'⟩, h1, h2⟩ := h
      simp only [Prod.mk.injEq] at h2
      rw [← h2.1, List.length_cons, decGo_len h1]
theorem rdGo_lt {b : List UInt8} {a : Nat} : ∀ (f k n : Nat) {x e : Nat}, rdGo b a f k n = some (x, e) → e ≤ b.length ∧ x ≤ 1000000000000
  | 0, k, n, x, e, h => by simp [rdGo] at h
  | f + 1, k, n, x, e, h => by
    by_cases hh : a + k < b.length
    · rw [rdGo_step _ _ hh] at h
      split at h
      · split at h
        · cases h
        · rename_i hc
          simp only [Option.some.injEq, Prod.mk.injEq] at h
          omega
      · exact rdGo_lt f _ _ h
    · rw [rdGo_end _ _ hh] at h; cases h
theorem readV_lt {b : List UInt8} {i : Int} {x e : Nat} (h : readV b i = some (x, e)) : e ≤ b.length ∧ x ≤ 1000000000000 := by
  unfold readV at h
  split at h
  · cases h
  · exact rdGo_lt _ _ _ h
def rdHop (b : List UInt8) (i : Int) : Option (Hp × Nat) :=
  match decI b i 5 with
  | some ([x, y, z, u, v], e) => if validHop ⟨x, y, z, u, v⟩ then some (⟨x, y, z, u, v⟩, e) else none
  | _ => none
def rdHopD : Option (Hp × Nat) → List D
  | none => [.agg (hopRow ⟨0, 0, 0, 0, 0⟩), .int .i64 0, .bool false]
  | some (h, e) => [.agg (hopRow h), .int .i64 e, .bool true]
set_option maxHeartbeats 4000000 in
theorem decI_i (b : List UInt8) (i : Int) (m : Nat) (hb : b.length ≤ 1073741824) (hm : m ≤ 100) : ACall Try.prog 153 [.sl (b.map byteRow), .int .i64 i, .int .i64 m] (.tup (decD (decI b i m))) [] := by
  have q1 : inR (m : Int) 0 100 = true := by simp [inR]; omega
  rcases Bool.eq_false_or_eq_true (inR i 0 b.length) with q2 | q2
  · have h0 : 0 ≤ i ∧ i ≤ b.length := by simpa [inR] using q2
    obtain ⟨a, rfl⟩ : ∃ a : Nat, i = (a : Int) := ⟨i.toNat, by omega⟩
    have er : decI b (a : Int) m = decGo b m a := by rw [decI, if_pos q2]; rfl
    refine acall_mk Try.func153 rfl Try.ntmps153 Try.results153 (by kernel_rfl) (by simp) ?_
    simp only [args, Nat.zero_add, Nat.reduceAdd]
    (have fx := And.intro (@q1) (@q2)
     repeat' (first | with_reducible refine go ?_ | with_reducible refine t_region fun KT hT => ?_ | (refine gp fun KK hK => ?_; first | (refine hK _ _ ?_; clear hK KK) | (refine hK _ ?_; clear hK KK; try simp only [upd_mk]) | ((with_reducible first | refine .inl ⟨_, _, ⟨inRange_i _ _ _, rfl, csq⟩, hK _ _ (nz ?_)⟩ | refine ⟨_, ⟨inRange_i _ _ _, rfl, rfl, csq⟩, hK _ (nz ?_)⟩); clear hK KK) | (refine ⟨by first | exact eq_hop, hK _ _ ?_⟩; clear hK KK) | (refine ⟨by first | exact eq_hop, hK _ (nz ?_)⟩; clear hK KK) | ((repeat refine And.intro (by first | omega | (rw [getD_map_lt (by omega)]; rfl) | (simp; first | done | omega)) ?_); first | (refine hK _ _ ?_; clear hK KK) | (refine hK _ ?_; clear hK KK; try simp only [upd_mk]))) | ((with_reducible first | refine o_nil (hT _ _ ?_) | refine h_nil (hT _ ?_)); clear hT KT) | ((first | refine gd fun AA BB hA hB => ?_ | refine tc fun AA BB hA hB => ?_); first | (refine go ?_; (first | refine hA ?_ | refine hB ?_); clear hA hB AA BB) | (refine go2 ?_ ?_ <;> intro hb <;> (first | refine hA ?_ | refine hB ?_) <;> clear hA hB AA BB <;> (try simp only [hb, decide_true, decide_false]) <;> (try (exfalso; first | (simp at hb; done) | (simp at hb; omega))))) | (with_reducible refine skS ?_; simp only [upd_mk]) | with_reducible refine tdr fun KT hT => ?_ | with_reducible refine bY ?_)
     all_goals clear fx)
    refine t_loop (fun q : Nat × Nat × List Int => [(0, .sl (b.map byteRow)), (1, .int .i64 (q.2.1 : Int)), (2, .int .i64 (m : Int)), (9, .fs 99), (10, .int .i64 (q.1 : Int))]) (fun q => [(99, .row (q.2.2.map intRow))]) (fun q => q.1 ≤ m ∧ q.2.2.length = q.1 ∧ decI b a m = (decGo b (m - q.1) q.2.1).map fun r => (q.2.2 ++ r.1, r.2)) (fun q => m - q.1) (0, a, []) (imp_nil 9 99 rfl rfl (imp_keep (by simp [Keep, mk]) (by simp [KeepT, mkT]) rfl)) ⟨by simp, rfl, by simp [er]⟩ ?_
    rintro ⟨k, z, acc⟩ ⟨hk, hl, hr⟩
    simp only at hk hl hr
    rcases Nat.lt_or_ge k m with h | h
    · have e1 : decide ((k : Int) < (m : Int)) = true := decide_eq_true (by omega)
      rw [show m - k = (m - (k + 1)) + 1 by omega, decGo] at hr
      have c := readV_i b (z : Int) hb
      cases hv : readV b (z : Int) with
      | none =>
        rw [hv] at c hr
        simp only [rdD] at c
        (have fx := (@e1)
         repeat' (first | with_reducible refine go ?_ | with_reducible refine t_region fun KT hT => ?_ | (refine gp fun KK hK => ?_; first | (refine hK _ _ ?_; clear hK KK) | (refine hK _ ?_; clear hK KK; try simp only [upd_mk]) | ((with_reducible first | refine .inl ⟨_, _, ⟨c, rfl, csq⟩, hK _ _ (nz ?_)⟩ | refine ⟨_, ⟨c, rfl, rfl, csq⟩, hK _ (nz ?_)⟩); clear hK KK) | (refine ⟨by first | exact eq_hop, hK _ _ ?_⟩; clear hK KK) | (refine ⟨by first | exact eq_hop, hK _ (nz ?_)⟩; clear hK KK) | ((repeat refine And.intro (by first | omega | (rw [getD_map_lt (by omega)]; rfl) | (simp; first | done | omega)) ?_); first | (refine hK _ _ ?_; clear hK KK) | (refine hK _ ?_; clear hK KK; try simp only [upd_mk]))) | ((with_reducible first | refine o_nil (hT _ _ ?_) | refine h_nil (hT _ ?_)); clear hT KT) | ((first | refine gd fun AA BB hA hB => ?_ | refine tc fun AA BB hA hB => ?_); first | (refine go ?_; (first | refine hA ?_ | refine hB ?_); clear hA hB AA BB) | (refine go2 ?_ ?_ <;> intro hb <;> (first | refine hA ?_ | refine hB ?_) <;> clear hA hB AA BB <;> (try simp only [hb, decide_true, decide_false]) <;> (try (exfalso; first | (simp at hb; done) | (simp at hb; omega))))) | (with_reducible refine skS ?_; simp only [upd_mk]) | with_reducible refine tdr fun KT hT => ?_ | with_reducible refine bY ?_)
         all_goals clear fx)
        (refine fe ?_; try exact trivial)
        rw [hr]; rfl
      | some p =>
        obtain ⟨v, w⟩ := p
        rw [hv] at c hr
        simp only [rdD] at c
        simp only at hr
        (have fx := And.intro (@e1) (@hl)
         repeat' (first | with_reducible refine go ?_ | with_reducible refine t_region fun KT hT => ?_ | (refine gp fun KK hK => ?_; first | (refine hK _ _ ?_; clear hK KK) | (refine hK _ ?_; clear hK KK; try simp only [upd_mk]) | ((with_reducible first | refine .inl ⟨_, _, ⟨c, rfl, csq⟩, hK _ _ (nz ?_)⟩ | refine ⟨_, ⟨c, rfl, rfl, csq⟩, hK _ (nz ?_)⟩); clear hK KK) | (refine ⟨by first | exact eq_hop, hK _ _ ?_⟩; clear hK KK) | (refine ⟨by first | exact eq_hop, hK _ (nz ?_)⟩; clear hK KK) | ((repeat refine And.intro (by first | omega | (rw [getD_map_lt (by omega)]; rfl) | (simp; first | done | omega)) ?_); first | (refine hK _ _ ?_; clear hK KK) | (refine hK _ ?_; clear hK KK; try simp only [upd_mk]))) | ((with_reducible first | refine o_nil (hT _ _ ?_) | refine h_nil (hT _ ?_)); clear hT KT) | ((first | refine gd fun AA BB hA hB => ?_ | refine tc fun AA BB hA hB => ?_); first | (refine go ?_; (first | refine hA ?_ | refine hB ?_); clear hA hB AA BB) | (refine go2 ?_ ?_ <;> intro hb <;> (first | refine hA ?_ | refine hB ?_) <;> clear hA hB AA BB <;> (try simp only [hb, decide_true, decide_false]) <;> (try (exfalso; first | (simp at hb; done) | (simp at hb; omega))))) | (with_reducible refine skS ?_; simp only [upd_mk]) | with_reducible refine tdr fun KT hT => ?_ | with_reducible refine bY ?_)
         all_goals clear fx)
        refine k_rnd (k + 1, w, acc ++ [(v : Int)]) (imp_drop 40 (imp_keep ?_ ?_ rfl)) ⟨h, by simp [hl], ?_⟩ (by simp only; omega)
        · simp [Keep, mk, scrP, scr, wrapS (show k < 4611686018427387904 by omega)]
        · simp [KeepT, mkT, del, scrT, Ent.scr, scrL, scr]
        · rw [hr, Option.map_map]
          congr 1
          funext r
          simp
    · obtain rfl : k = m := by omega
      have e1 : decide ((k : Int) < (k : Int)) = false := by simp
      rw [Nat.sub_self, decGo] at hr
      (have fx := (@e1)
       repeat' (first | with_reducible refine go ?_ | with_reducible refine t_region fun KT hT => ?_ | (refine gp fun KK hK => ?_; first | (refine hK _ _ ?_; clear hK KK) | (refine hK _ ?_; clear hK KK; try simp only [upd_mk]) | (refine ⟨by first | exact eq_hop, hK _ _ ?_⟩; clear hK KK) | (refine ⟨by first | exact eq_hop, hK _ (nz ?_)⟩; clear hK KK) | ((repeat refine And.intro (by first | omega | (rw [getD_map_lt (by omega)]; rfl) | (simp; first | done | omega)) ?_); first | (refine hK _ _ ?_; clear hK KK) | (refine hK _ ?_; clear hK KK; try simp only [upd_mk]))) | ((with_reducible first | refine o_nil (hT _ _ ?_) | refine h_nil (hT _ ?_)); clear hT KT) | ((first | refine gd fun AA BB hA hB => ?_ | refine tc fun AA BB hA hB => ?_); first | (refine go ?_; (first | refine hA ?_ | refine hB ?_); clear hA hB AA BB) | (refine go2 ?_ ?_ <;> intro hb <;> (first | refine hA ?_ | refine hB ?_) <;> clear hA hB AA BB <;> (try simp only [hb, decide_true, decide_false]) <;> (try (exfalso; first | (simp at hb; done) | (simp at hb; omega))))) | (with_reducible refine skS ?_; simp only [upd_mk]) | with_reducible refine tdr fun KT hT => ?_ | with_reducible refine bY ?_)
       all_goals clear fx)
      (refine fe ?_; try exact trivial)
      rw [hr]
      simp [decD]
  · have er : decI b i m = none := by rw [decI, if_neg (by simp [q2])]
    refine acall_mk Try.func153 rfl Try.ntmps153 Try.results153 (by kernel_rfl) (by simp) ?_
    simp only [args, Nat.zero_add, Nat.reduceAdd]
    (have fx := And.intro (@q1) (@q2)
     repeat' (first | with_reducible refine go ?_ | with_reducible refine t_region fun KT hT => ?_ | (refine gp fun KK hK => ?_; first | (refine hK _ _ ?_; clear hK KK) | (refine hK _ ?_; clear hK KK; try simp only [upd_mk]) | ((with_reducible first | refine .inl ⟨_, _, ⟨inRange_i _ _ _, rfl, csq⟩, hK _ _ (nz ?_)⟩ | refine ⟨_, ⟨inRange_i _ _ _, rfl, rfl, csq⟩, hK _ (nz ?_)⟩); clear hK KK) | (refine ⟨by first | exact eq_hop, hK _ _ ?_⟩; clear hK KK) | (refine ⟨by first | exact eq_hop, hK _ (nz ?_)⟩; clear hK KK) | ((repeat refine And.intro (by first | omega | (rw [getD_map_lt (by omega)]; rfl) | (simp; first | done | omega)) ?_); first | (refine hK _ _ ?_; clear hK KK) | (refine hK _ ?_; clear hK KK; try simp only [upd_mk]))) | ((with_reducible first | refine o_nil (hT _ _ ?_) | refine h_nil (hT _ ?_)); clear hT KT) | ((first | refine gd fun AA BB hA hB => ?_ | refine tc fun AA BB hA hB => ?_); first | (refine go ?_; (first | refine hA ?_ | refine hB ?_); clear hA hB AA BB) | (refine go2 ?_ ?_ <;> intro hb <;> (first | refine hA ?_ | refine hB ?_) <;> clear hA hB AA BB <;> (try simp only [hb, decide_true, decide_false]) <;> (try (exfalso; first | (simp at hb; done) | (simp at hb; omega))))) | (with_reducible refine skS ?_; simp only [upd_mk]) | with_reducible refine tdr fun KT hT => ?_ | with_reducible refine bY ?_)
     all_goals clear fx)
    (refine fe ?_; try exact trivial)
    rw [er]; rfl

end Go.Proofs.Ytmiclkgkfkcnoaa
