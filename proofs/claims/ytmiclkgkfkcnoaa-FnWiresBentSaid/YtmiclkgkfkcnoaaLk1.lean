/- The functions of this program, walked by the evaluator: part k, 1. -/
import Derived.Test.YtmiclkgkfkcnoaaLf1
import Derived.Test.YtmiclkgkfkcnoaaLh1
import Derived.Test.YtmiclkgkfkcnoaaLD
namespace Go.Proofs.Ytmiclkgkfkcnoaa
open Go.RowKit
set_option linter.unusedSimpArgs false
set_option linter.unusedVariables false
set_option maxRecDepth 100000
set_option linter.defProp false
namespace GLk1
def gx := And.intro (@hopRow.eq_1) (And.intro (@polRow.eq_1) (And.intro (@segRow.eq_1) (And.intro (@intRow.eq_1) (And.intro (@rowLen_ints) (And.intro (@rowLen_nil) (And.intro (@rowLen_cons) (And.intro (@rowLen_append) (And.intro (@lenL_app) (And.intro (@byteRow.eq_1) (And.intro (@rowLen_bytes) (And.intro (@bytesOf_map) (And.intro (@bytesOf_cons) (And.intro (@bytesOf_one) (And.intro (@rowLen_strs) (And.intro (@asRow.eq_1) (And.intro (@lkRow.eq_1) (And.intro (@tpRow.eq_1) (And.intro (@rowLen_hops) (And.intro (@rowLen_ases) (And.intro (@rowLen_links) (And.intro (@bcRow.eq_1) (@rowLen_bcs))))))))))))))))))))))
end GLk1
open GLk1
theorem copyBytes_i (b : List UInt8) (hb : b.length ≤ 1099511627776) : ACall Try.prog 143 [.sl (b.map byteRow)] (.fs 0) [b.map byteRow] := by
  refine acall_mk Try.func143 rfl Try.ntmps143 Try.results143 (by kernel_rfl) (by simp) ?_
  simp only [args, Nat.zero_add, Nat.reduceAdd]
  (have fx := (@rowLen_bytes)
   repeat' (first | with_reducible refine go ?_ | with_reducible refine t_region fun KT hT => ?_ | (refine gp fun KK hK => ?_; first | (refine hK _ _ ?_; clear hK KK) | (refine hK _ ?_; clear hK KK; try simp only [upd_mk]) | (refine ⟨by first | exact eq_hop, hK _ _ ?_⟩; clear hK KK) | (refine ⟨by first | exact eq_hop, hK _ (nz ?_)⟩; clear hK KK) | ((repeat refine And.intro (by first | omega | (rw [getD_map_lt (by omega)]; rfl) | (simp; first | done | omega)) ?_); first | (refine hK _ _ ?_; clear hK KK) | (refine hK _ ?_; clear hK KK; try simp only [upd_mk]))) | ((with_reducible first | refine o_nil (hT _ _ ?_) | refine h_nil (hT _ ?_)); clear hT KT) | ((first | refine gd fun AA BB hA hB => ?_ | refine tc fun AA BB hA hB => ?_); first | (refine go ?_; (first | refine hA ?_ | refine hB ?_); clear hA hB AA BB) | (refine go2 ?_ ?_ <;> intro hb <;> (first | refine hA ?_ | refine hB ?_) <;> clear hA hB AA BB <;> (try simp only [hb, decide_true, decide_false]) <;> (try (exfalso; first | (simp at hb; done) | (simp at hb; omega))))) | (with_reducible refine skS ?_; simp only [upd_mk]) | with_reducible refine tdr fun KT hT => ?_ | with_reducible refine bY ?_)
   all_goals clear fx)
  (refine fo [3] ?_; try exact trivial)
  exact ⟨rfl, rfl, by simp⟩

theorem appVar_i (b : List UInt8) (n : Int) (hb : b.length ≤ 1099511627776) : ACall Try.prog 196 [.sl (b.map byteRow), .int .i64 n] (.fs 0) [(b ++ varI n).map byteRow] := by
  have hv := varI_len n
  by_cases hh : inR n 0 1000000000000 = true
  · have hr : 0 ≤ n ∧ n ≤ 1000000000000 := by simpa [inR] using hh
    have evn : varI n = vEnc n.toNat := by rw [varI, if_pos hh]
    rw [evn] at hv ⊢
    obtain ⟨n0, rfl⟩ := Int.eq_ofNat_of_zero_le hr.1
    simp only [Int.toNat_natCast] at *
    refine acall_mk Try.func196 rfl Try.ntmps196 Try.results196 (by kernel_rfl) (by simp) ?_
    simp only [args, Nat.zero_add, Nat.reduceAdd]
    (have fx := And.intro (@hh) (@rowLen_bytes)
     repeat' (first | with_reducible refine go ?_ | with_reducible refine t_region fun KT hT => ?_ | (refine gp fun KK hK => ?_; first | (refine hK _ _ ?_; clear hK KK) | (refine hK _ ?_; clear hK KK; try simp only [upd_mk]) | ((with_reducible first | refine .inl ⟨_, _, ⟨copyBytes_i b hb, rfl, csq⟩, hK _ _ (nz ?_)⟩ | refine .inl ⟨_, _, ⟨inRange_i _ _ _, rfl, csq⟩, hK _ _ (nz ?_)⟩ | refine ⟨_, ⟨copyBytes_i b hb, rfl, rfl, csq⟩, hK _ (nz ?_)⟩ | refine ⟨_, ⟨inRange_i _ _ _, rfl, rfl, csq⟩, hK _ (nz ?_)⟩); clear hK KK) | (refine ⟨by first | exact eq_hop, hK _ _ ?_⟩; clear hK KK) | (refine ⟨by first | exact eq_hop, hK _ (nz ?_)⟩; clear hK KK) | ((repeat refine And.intro (by first | omega | (rw [getD_map_lt (by omega)]; rfl) | (simp; first | done | omega)) ?_); first | (refine hK _ _ ?_; clear hK KK) | (refine hK _ ?_; clear hK KK; try simp only [upd_mk]))) | ((with_reducible first | refine o_nil (hT _ _ ?_) | refine h_nil (hT _ ?_)); clear hT KT) | ((first | refine gd fun AA BB hA hB => ?_ | refine tc fun AA BB hA hB => ?_); first | (refine go ?_; (first | refine hA ?_ | refine hB ?_); clear hA hB AA BB) | (refine go2 ?_ ?_ <;> intro hb <;> (first | refine hA ?_ | refine hB ?_) <;> clear hA hB AA BB <;> (try simp only [hb, decide_true, decide_false]) <;> (try (exfalso; first | (simp at hb; done) | (simp at hb; omega))))) | (with_reducible refine skS ?_; simp only [upd_mk]) | with_reducible refine tdr fun KT hT => ?_ | with_reducible refine bY ?_)
     all_goals clear fx)
    refine t_loop (fun a : Nat × List UInt8 => [(1, .int .i64 a.1), (5, .fs 1007)]) (fun a => [(1007, .row (a.2.map byteRow))]) (fun a => a.1 ≤ 1000000000000 ∧ a.2 ++ vEnc a.1 = b ++ vEnc n0) (fun a => a.1) (n0, b) (imp_keep (by simp [Keep, mk]) (by simp [KeepT, mkT]) rfl) ⟨by simp only; omega, rfl⟩ ?_
    rintro ⟨m, acc⟩ ⟨hm, ha⟩
    simp only at hm ha
    have hl : acc.length ≤ b.length + 6 := by
      have := congrArg List.length ha
      simp only [List.length_append] at this; omega
    rcases Nat.lt_or_ge m 128 with h | h
    · have e1 : decide (128 ≤ (m : Int)) = false := decide_eq_false (by omega)
      have e2 := byteLt h
      rw [vEnc_lt h] at ha
      have e3 : acc.map byteRow ++ [[.int .u8 (UInt8.ofNat m).toNat]] = (b ++ vEnc n0).map byteRow := by rw [← ha]; simp
      (have fx := And.intro (@e1) (And.intro (@e2) (And.intro (@e3) (@rowLen_bytes)))
       repeat' (first | with_reducible refine go ?_ | with_reducible refine t_region fun KT hT => ?_ | (refine gp fun KK hK => ?_; first | (refine hK _ _ ?_; clear hK KK) | (refine hK _ ?_; clear hK KK; try simp only [upd_mk]) | (refine ⟨by first | exact eq_hop, hK _ _ ?_⟩; clear hK KK) | (refine ⟨by first | exact eq_hop, hK _ (nz ?_)⟩; clear hK KK) | ((repeat refine And.intro (by first | omega | (rw [getD_map_lt (by omega)]; rfl) | (simp; first | done | omega)) ?_); first | (refine hK _ _ ?_; clear hK KK) | (refine hK _ ?_; clear hK KK; try simp only [upd_mk]))) | ((with_reducible first | refine o_nil (hT _ _ ?_) | refine h_nil (hT _ ?_)); clear hT KT) | ((first | refine gd fun AA BB hA hB => ?_ | refine tc fun AA BB hA hB => ?_); first | (refine go ?_; (first | refine hA ?_ | refine hB ?_); clear hA hB AA BB) | (refine go2 ?_ ?_ <;> intro hb <;> (first | refine hA ?_ | refine hB ?_) <;> clear hA hB AA BB <;> (try simp only [hb, decide_true, decide_false]) <;> (try (exfalso; first | (simp at hb; done) | (simp at hb; omega))))) | (with_reducible refine skS ?_; simp only [upd_mk]) | with_reducible refine tdr fun KT hT => ?_ | with_reducible refine bY ?_)
       all_goals clear fx)
      (refine fo [1007] ?_; try exact trivial)
      exact ⟨rfl, rfl, by simp⟩
    · have e1 : decide (128 ≤ (m : Int)) = true := decide_eq_true (by omega)
      have q1 : (m : Int).tmod 128 = ((m % 128 : Nat) : Int) := by rw [Int.tmod_eq_emod_of_nonneg (by omega)]; rfl
      have q2 : IntKind.i64.wrap (((m % 128 : Nat) : Int) + 128) = ((m % 128 + 128 : Nat) : Int) := by rw [wr64 (by omega) (by omega)]; omega
      have q3 := byte128 m
      have q4 : IntKind.i64.wrap ((m : Int).tdiv 128) = ((m / 128 : Nat) : Int) := by rw [Int.tdiv_eq_ediv_of_nonneg (by omega), wr64 (by omega) (by omega)]; rfl
      rw [vEnc_ge (by omega)] at ha
      (have fx := And.intro (@e1) (And.intro (@rowLen_bytes) (And.intro (@q1) (And.intro (@q2) (And.intro (@q3) (@q4)))))
       repeat' (first | with_reducible refine go ?_ | with_reducible refine t_region fun KT hT => ?_ | (refine gp fun KK hK => ?_; first | (refine hK _ _ ?_; clear hK KK) | (refine hK _ ?_; clear hK KK; try simp only [upd_mk]) | (refine ⟨by first | exact eq_hop, hK _ _ ?_⟩; clear hK KK) | (refine ⟨by first | exact eq_hop, hK _ (nz ?_)⟩; clear hK KK) | ((repeat refine And.intro (by first | omega | (rw [getD_map_lt (by omega)]; rfl) | (simp; first | done | omega)) ?_); first | (refine hK _ _ ?_; clear hK KK) | (refine hK _ ?_; clear hK KK; try simp only [upd_mk]))) | ((with_reducible first | refine o_nil (hT _ _ ?_) | refine h_nil (hT _ ?_)); clear hT KT) | ((first | refine gd fun AA BB hA hB => ?_ | refine tc fun AA BB hA hB => ?_); first | (refine go ?_; (first | refine hA ?_ | refine hB ?_); clear hA hB AA BB) | (refine go2 ?_ ?_ <;> intro hb <;> (first | refine hA ?_ | refine hB ?_) <;> clear hA hB AA BB <;> (try simp only [hb, decide_true, decide_false]) <;> (try (exfalso; first | (simp at hb; done) | (simp at hb; omega))))) | (with_reducible refine skS ?_; simp only [upd_mk]) | with_reducible refine tdr fun KT hT => ?_ | with_reducible refine bY ?_)
       all_goals clear fx)
      refine k_rnd (m / 128, acc ++ [UInt8.ofNat (m % 128 + 128)]) (imp_drop 19 (imp_keep ?_ ?_ rfl)) ⟨by simp only; omega, ?_⟩ (by simp only; omega)
      · simp [Keep, mk, scrP, scr]
      · simp [KeepT, mkT, del, scrT, Ent.scr]
      · simp only [List.append_assoc, List.cons_append, List.nil_append]; exact ha
  · have hh' : inR n 0 1000000000000 = false := by simpa using hh
    have evn : varI n = [] := by rw [varI, if_neg hh]
    rw [evn, List.append_nil]
    refine acall_mk Try.func196 rfl Try.ntmps196 Try.results196 (by kernel_rfl) (by simp) ?_
    simp only [args, Nat.zero_add, Nat.reduceAdd]
    (have fx := And.intro (@hh') (@rowLen_bytes)
     repeat' (first | with_reducible refine go ?_ | with_reducible refine t_region fun KT hT => ?_ | (refine gp fun KK hK => ?_; first | (refine hK _ _ ?_; clear hK KK) | (refine hK _ ?_; clear hK KK; try simp only [upd_mk]) | ((with_reducible first | refine .inl ⟨_, _, ⟨copyBytes_i b hb, rfl, csq⟩, hK _ _ (nz ?_)⟩ | refine .inl ⟨_, _, ⟨inRange_i _ _ _, rfl, csq⟩, hK _ _ (nz ?_)⟩ | refine ⟨_, ⟨copyBytes_i b hb, rfl, rfl, csq⟩, hK _ (nz ?_)⟩ | refine ⟨_, ⟨inRange_i _ _ _, rfl, rfl, csq⟩, hK _ (nz ?_)⟩); clear hK KK) | (refine ⟨by first | exact eq_hop, hK _ _ ?_⟩; clear hK KK) | (refine ⟨by first | exact eq_hop, hK _ (nz ?_)⟩; clear hK KK) | ((repeat refine And.intro (by first | omega | (rw [getD_map_lt (by omega)]; rfl) | (simp; first | done | omega)) ?_); first | (refine hK _ _ ?_; clear hK KK) | (refine hK _ ?_; clear hK KK; try simp only [upd_mk]))) | ((with_reducible first | refine o_nil (hT _ _ ?_) | refine h_nil (hT _ ?_)); clear hT KT) | ((first | refine gd fun AA BB hA hB => ?_ | refine tc fun AA BB hA hB => ?_); first | (refine go ?_; (first | refine hA ?_ | refine hB ?_); clear hA hB AA BB) | (refine go2 ?_ ?_ <;> intro hb <;> (first | refine hA ?_ | refine hB ?_) <;> clear hA hB AA BB <;> (try simp only [hb, decide_true, decide_false]) <;> (try (exfalso; first | (simp at hb; done) | (simp at hb; omega))))) | (with_reducible refine skS ?_; simp only [upd_mk]) | with_reducible refine tdr fun KT hT => ?_ | with_reducible refine bY ?_)
     all_goals clear fx)
    (refine fo [1007] ?_; try exact trivial)
    exact ⟨rfl, rfl, by simp⟩

theorem appVar_s (b : List UInt8) (n : Int) (hb : b.length ≤ 1099511627776) : ACall Try.prog 197 [.sl (b.map byteRow), .int .i64 n] (.fs 0) [(b ++ varI n).map byteRow] := by
  have hv := varI_len n
  by_cases hh : inR n 0 1000000000000 = true
  · have hr : 0 ≤ n ∧ n ≤ 1000000000000 := by simpa [inR] using hh
    have evn : varI n = vEnc n.toNat := by rw [varI, if_pos hh]
    rw [evn] at hv ⊢
    obtain ⟨n0, rfl⟩ := Int.eq_ofNat_of_zero_le hr.1
    simp only [Int.toNat_natCast] at *
    refine acall_mk Try.func197 rfl Try.ntmps197 Try.results197 (by kernel_rfl) (by simp) ?_
    simp only [args, Nat.zero_add, Nat.reduceAdd]
    (have fx := And.intro (@hh) (@rowLen_bytes)
     repeat' (first | with_reducible refine go ?_ | with_reducible refine t_region fun KT hT => ?_ | (refine gp fun KK hK => ?_; first | (refine hK _ _ ?_; clear hK KK) | (refine hK _ ?_; clear hK KK; try simp only [upd_mk]) | ((with_reducible first | refine .inl ⟨_, _, ⟨l1In_s _ _ _, rfl, csq⟩, hK _ _ (nz ?_)⟩ | refine ⟨_, ⟨l1In_s _ _ _, rfl, rfl, csq⟩, hK _ (nz ?_)⟩); clear hK KK) | (refine ⟨by first | exact eq_hop, hK _ _ ?_⟩; clear hK KK) | (refine ⟨by first | exact eq_hop, hK _ (nz ?_)⟩; clear hK KK) | ((repeat refine And.intro (by first | omega | (rw [getD_map_lt (by omega)]; rfl) | (simp; first | done | omega)) ?_); first | (refine hK _ _ ?_; clear hK KK) | (refine hK _ ?_; clear hK KK; try simp only [upd_mk]))) | ((with_reducible first | refine o_nil (hT _ _ ?_) | refine h_nil (hT _ ?_)); clear hT KT) | ((first | refine gd fun AA BB hA hB => ?_ | refine tc fun AA BB hA hB => ?_); first | (refine go ?_; (first | refine hA ?_ | refine hB ?_); clear hA hB AA BB) | (refine go2 ?_ ?_ <;> intro hb <;> (first | refine hA ?_ | refine hB ?_) <;> clear hA hB AA BB <;> (try simp only [hb, decide_true, decide_false]) <;> (try (exfalso; first | (simp at hb; done) | (simp at hb; omega))))) | (with_reducible refine skS ?_; simp only [upd_mk]) | with_reducible refine tdr fun KT hT => ?_ | with_reducible refine bY ?_)
     all_goals clear fx)
    refine t_loop (fun a : Nat × List UInt8 => [(1, .int .i64 a.1), (5, .fs 6)]) (fun a => [(6, .row (a.2.map byteRow))]) (fun a => a.1 ≤ 1000000000000 ∧ a.2 ++ vEnc a.1 = b ++ vEnc n0) (fun a => a.1) (n0, b) (imp_keep (by simp [Keep, mk]) (by simp [KeepT, mkT]) rfl) ⟨by simp only; omega, rfl⟩ ?_
    rintro ⟨m, acc⟩ ⟨hm, ha⟩
    simp only at hm ha
    have hl : acc.length ≤ b.length + 6 := by
      have := congrArg List.length ha
      simp only [List.length_append] at this; omega
    rcases Nat.lt_or_ge m 128 with h | h
    · have e1 : decide (127 < (m : Int)) = false := decide_eq_false (by omega)
      have e2 := byteLt h
      rw [vEnc_lt h] at ha
      have e3 : acc.map byteRow ++ [[.int .u8 (UInt8.ofNat m).toNat]] = (b ++ vEnc n0).map byteRow := by rw [← ha]; simp
      (have fx := And.intro (@e1) (And.intro (@e2) (And.intro (@e3) (@rowLen_bytes)))
       repeat' (first | with_reducible refine go ?_ | with_reducible refine t_region fun KT hT => ?_ | (refine gp fun KK hK => ?_; first | (refine hK _ _ ?_; clear hK KK) | (refine hK _ ?_; clear hK KK; try simp only [upd_mk]) | (refine ⟨by first | exact eq_hop, hK _ _ ?_⟩; clear hK KK) | (refine ⟨by first | exact eq_hop, hK _ (nz ?_)⟩; clear hK KK) | ((repeat refine And.intro (by first | omega | (rw [getD_map_lt (by omega)]; rfl) | (simp; first | done | omega)) ?_); first | (refine hK _ _ ?_; clear hK KK) | (refine hK _ ?_; clear hK KK; try simp only [upd_mk]))) | ((with_reducible first | refine o_nil (hT _ _ ?_) | refine h_nil (hT _ ?_)); clear hT KT) | ((first | refine gd fun AA BB hA hB => ?_ | refine tc fun AA BB hA hB => ?_); first | (refine go ?_; (first | refine hA ?_ | refine hB ?_); clear hA hB AA BB) | (refine go2 ?_ ?_ <;> intro hb <;> (first | refine hA ?_ | refine hB ?_) <;> clear hA hB AA BB <;> (try simp only [hb, decide_true, decide_false]) <;> (try (exfalso; first | (simp at hb; done) | (simp at hb; omega))))) | (with_reducible refine skS ?_; simp only [upd_mk]) | with_reducible refine tdr fun KT hT => ?_ | with_reducible refine bY ?_)
       all_goals clear fx)
      (refine fo [6] ?_; try exact trivial)
      exact ⟨rfl, rfl, by simp⟩
    · have e1 : decide (127 < (m : Int)) = true := decide_eq_true (by omega)
      have q1 := and127 m (by omega)
      have q2 := or128 m
      have q3 := byte128 m
      have q4 : (m : Int).fdiv (2 ^ min (7 : Int).toNat IntKind.i64.bits) = ((m / 128 : Nat) : Int) := by
        show (m : Int).fdiv 128 = _
        rw [Int.fdiv_eq_ediv_of_nonneg _ (by omega)]; rfl
      have q5 : (m : Int).fdiv (2 ^ min 7 IntKind.i64.bits) = ((m / 128 : Nat) : Int) := q4
      rw [vEnc_ge (by omega)] at ha
      (have fx := And.intro (@e1) (And.intro (@rowLen_bytes) (And.intro (@q1) (And.intro (@q2) (And.intro (@q3) (And.intro (@q4) (@q5))))))
       repeat' (first | with_reducible refine go ?_ | with_reducible refine t_region fun KT hT => ?_ | (refine gp fun KK hK => ?_; first | (refine hK _ _ ?_; clear hK KK) | (refine hK _ ?_; clear hK KK; try simp only [upd_mk]) | (refine ⟨by first | exact eq_hop, hK _ _ ?_⟩; clear hK KK) | (refine ⟨by first | exact eq_hop, hK _ (nz ?_)⟩; clear hK KK) | ((repeat refine And.intro (by first | omega | (rw [getD_map_lt (by omega)]; rfl) | (simp; first | done | omega)) ?_); first | (refine hK _ _ ?_; clear hK KK) | (refine hK _ ?_; clear hK KK; try simp only [upd_mk]))) | ((with_reducible first | refine o_nil (hT _ _ ?_) | refine h_nil (hT _ ?_)); clear hT KT) | ((first | refine gd fun AA BB hA hB => ?_ | refine tc fun AA BB hA hB => ?_); first | (refine go ?_; (first | refine hA ?_ | refine hB ?_); clear hA hB AA BB) | (refine go2 ?_ ?_ <;> intro hb <;> (first | refine hA ?_ | refine hB ?_) <;> clear hA hB AA BB <;> (try simp only [hb, decide_true, decide_false]) <;> (try (exfalso; first | (simp at hb; done) | (simp at hb; omega))))) | (with_reducible refine skS ?_; simp only [upd_mk]) | with_reducible refine tdr fun KT hT => ?_ | with_reducible refine bY ?_)
       all_goals clear fx)
      refine k_rnd (m / 128, acc ++ [UInt8.ofNat (m % 128 + 128)]) (imp_drop 20 (imp_keep ?_ ?_ rfl)) ⟨by simp only; omega, ?_⟩ (by simp only; omega)
      · simp [Keep, mk, scrP, scr]
      · simp [KeepT, mkT, del, scrT, Ent.scr]
      · simp only [List.append_assoc, List.cons_append, List.nil_append]; exact ha
  · have hh' : inR n 0 1000000000000 = false := by simpa using hh
    have evn : varI n = [] := by rw [varI, if_neg hh]
    rw [evn, List.append_nil]
    refine acall_mk Try.func197 rfl Try.ntmps197 Try.results197 (by kernel_rfl) (by simp) ?_
    simp only [args, Nat.zero_add, Nat.reduceAdd]
    (have fx := And.intro (@hh') (@rowLen_bytes)
     repeat' (first | with_reducible refine go ?_ | with_reducible refine t_region fun KT hT => ?_ | (refine gp fun KK hK => ?_; first | (refine hK _ _ ?_; clear hK KK) | (refine hK _ ?_; clear hK KK; try simp only [upd_mk]) | ((with_reducible first | refine .inl ⟨_, _, ⟨l1In_s _ _ _, rfl, csq⟩, hK _ _ (nz ?_)⟩ | refine ⟨_, ⟨l1In_s _ _ _, rfl, rfl, csq⟩, hK _ (nz ?_)⟩); clear hK KK) | (refine ⟨by first | exact eq_hop, hK _ _ ?_⟩; clear hK KK) | (refine ⟨by first | exact eq_hop, hK _ (nz ?_)⟩; clear hK KK) | ((repeat refine And.intro (by first | omega | (rw [getD_map_lt (by omega)]; rfl) | (simp; first | done | omega)) ?_); first | (refine hK _ _ ?_; clear hK KK) | (refine hK _ ?_; clear hK KK; try simp only [upd_mk]))) | ((with_reducible first | refine o_nil (hT _ _ ?_) | refine h_nil (hT _ ?_)); clear hT KT) | ((first | refine gd fun AA BB hA hB => ?_ | refine tc fun AA BB hA hB => ?_); first | (refine go ?_; (first | refine hA ?_ | refine hB ?_); clear hA hB AA BB) | (refine go2 ?_ ?_ <;> intro hb <;> (first | refine hA ?_ | refine hB ?_) <;> clear hA hB AA BB <;> (try simp only [hb, decide_true, decide_false]) <;> (try (exfalso; first | (simp at hb; done) | (simp at hb; omega))))) | (with_reducible refine skS ?_; simp only [upd_mk]) | with_reducible refine tdr fun KT hT => ?_ | with_reducible refine bY ?_)
     all_goals clear fx)
    (refine fo [6] ?_; try exact trivial)
    exact ⟨rfl, rfl, by simp⟩

theorem appInts_i (b : List UInt8) (l : List Int) (hb : b.length ≤ 549755813888) (hl : l.length ≤ 1048576) (h0 : l ≠ []) : ACall Try.prog 144 [.sl (b.map byteRow), .sl (l.map intRow)] (.fs 0) [(b ++ encI l).map byteRow] := by
  refine acall_mk Try.func144 rfl Try.ntmps144 Try.results144 (by kernel_rfl) (by simp) ?_
  simp only [args, Nat.zero_add, Nat.reduceAdd]
  repeat' (first | with_reducible refine go ?_ | with_reducible refine t_region fun KT hT => ?_ | (refine gp fun KK hK => ?_; first | (refine hK _ _ ?_; clear hK KK) | (refine hK _ ?_; clear hK KK; try simp only [upd_mk]) | (refine ⟨by first | exact eq_hop, hK _ _ ?_⟩; clear hK KK) | (refine ⟨by first | exact eq_hop, hK _ (nz ?_)⟩; clear hK KK) | ((repeat refine And.intro (by first | omega | (rw [getD_map_lt (by omega)]; rfl) | (simp; first | done | omega)) ?_); first | (refine hK _ _ ?_; clear hK KK) | (refine hK _ ?_; clear hK KK; try simp only [upd_mk]))) | ((with_reducible first | refine o_nil (hT _ _ ?_) | refine h_nil (hT _ ?_)); clear hT KT) | ((first | refine gd fun AA BB hA hB => ?_ | refine tc fun AA BB hA hB => ?_); first | (refine go ?_; (first | refine hA ?_ | refine hB ?_); clear hA hB AA BB) | (refine go2 ?_ ?_ <;> intro hb <;> (first | refine hA ?_ | refine hB ?_) <;> clear hA hB AA BB <;> (try simp only [hb, decide_true, decide_false]) <;> (try (exfalso; first | (simp at hb; done) | (simp at hb; omega))))) | (with_reducible refine skS ?_; simp only [upd_mk]) | with_reducible refine tdr fun KT hT => ?_ | with_reducible refine bY ?_)
  refine t_loop (fun k : Nat => [(7, .sl (l.map intRow)), (8, .int .i64 l.length), (9, .int .i64 k), (0, if k = 0 then .sl (b.map byteRow) else .fs 1015)]) (fun k => if k = 0 then [] else [(1015, .row ((b ++ encI (l.take k)).map byteRow))]) (fun k => k ≤ l.length) (fun k => l.length - k) 0 (imp_keep (by simp [Keep, mk]) trivial rfl) (Nat.zero_le _) ?_
  intro k hk
  have hlen : 0 < l.length := List.length_pos_iff.2 h0
  rcases Nat.lt_or_ge k l.length with h | h
  · have e1 : decide ((k : Int) < (l.length : Int)) = true := by simpa using h
    have e2 := getD_map_lt (f := intRow) h
    have st := encI_step l k h
    have el := encI_len (l.take k)
    simp only [List.length_take, Nat.min_eq_left hk] at el
    cases k with
    | zero =>
      have c := appVar_i b l[0] (by omega)
      have e1' : decide ((0 : Int) < (l.length : Int)) = true := decide_eq_true (by omega)
      simp only [if_true]
      (have fx := And.intro (@e1) (And.intro (@e1') (And.intro (@e2) (@h)))
       repeat' (first | with_reducible refine go ?_ | with_reducible refine t_region fun KT hT => ?_ | (refine gp fun KK hK => ?_; first | (refine hK _ _ ?_; clear hK KK) | (refine hK _ ?_; clear hK KK; try simp only [upd_mk]) | ((with_reducible first | refine .inl ⟨_, _, ⟨c, rfl, csq⟩, hK _ _ (nz ?_)⟩ | refine ⟨_, ⟨c, rfl, rfl, csq⟩, hK _ (nz ?_)⟩); clear hK KK) | (refine ⟨by first | exact eq_hop, hK _ _ ?_⟩; clear hK KK) | (refine ⟨by first | exact eq_hop, hK _ (nz ?_)⟩; clear hK KK) | ((repeat refine And.intro (by first | omega | (rw [getD_map_lt (by omega)]; rfl) | (simp; first | done | omega)) ?_); first | (refine hK _ _ ?_; clear hK KK) | (refine hK _ ?_; clear hK KK; try simp only [upd_mk]))) | ((with_reducible first | refine o_nil (hT _ _ ?_) | refine h_nil (hT _ ?_)); clear hT KT) | ((first | refine gd fun AA BB hA hB => ?_ | refine tc fun AA BB hA hB => ?_); first | (refine go ?_; (first | refine hA ?_ | refine hB ?_); clear hA hB AA BB) | (refine go2 ?_ ?_ <;> intro hb <;> (first | refine hA ?_ | refine hB ?_) <;> clear hA hB AA BB <;> (try simp only [hb, decide_true, decide_false]) <;> (try (exfalso; first | (simp at hb; done) | (simp at hb; omega))))) | (with_reducible refine skS ?_; simp only [upd_mk]) | with_reducible refine tdr fun KT hT => ?_ | with_reducible refine bY ?_)
       all_goals clear fx)
      refine k_rnd (1 : Nat) (imp_keep ?_ ?_ rfl) h (by omega)
      · simp [Keep, mk, wr64]
      · simp only [Nat.zero_add] at st
        simp [KeepT, mkT, st, show encI [] = [] from rfl]
    | succ j =>
      have c := appVar_i (b ++ encI (l.take (j + 1))) l[j + 1] (by simp only [List.length_append]; omega)
      simp only [Nat.succ_ne_zero, if_false, Nat.add_eq_zero_iff, Nat.one_ne_zero, and_false]
      (have fx := And.intro (@e1) (And.intro (@e2) (@h))
       repeat' (first | with_reducible refine go ?_ | with_reducible refine t_region fun KT hT => ?_ | (refine gp fun KK hK => ?_; first | (refine hK _ _ ?_; clear hK KK) | (refine hK _ ?_; clear hK KK; try simp only [upd_mk]) | ((with_reducible first | refine .inl ⟨_, _, ⟨c, rfl, csq⟩, hK _ _ (nz ?_)⟩ | refine ⟨_, ⟨c, rfl, rfl, csq⟩, hK _ (nz ?_)⟩); clear hK KK) | (refine ⟨by first | exact eq_hop, hK _ _ ?_⟩; clear hK KK) | (refine ⟨by first | exact eq_hop, hK _ (nz ?_)⟩; clear hK KK) | ((repeat refine And.intro (by first | omega | (rw [getD_map_lt (by omega)]; rfl) | (simp; first | done | omega)) ?_); first | (refine hK _ _ ?_; clear hK KK) | (refine hK _ ?_; clear hK KK; try simp only [upd_mk]))) | ((with_reducible first | refine o_nil (hT _ _ ?_) | refine h_nil (hT _ ?_)); clear hT KT) | ((first | refine gd fun AA BB hA hB => ?_ | refine tc fun AA BB hA hB => ?_); first | (refine go ?_; (first | refine hA ?_ | refine hB ?_); clear hA hB AA BB) | (refine go2 ?_ ?_ <;> intro hb <;> (first | refine hA ?_ | refine hB ?_) <;> clear hA hB AA BB <;> (try simp only [hb, decide_true, decide_false]) <;> (try (exfalso; first | (simp at hb; done) | (simp at hb; omega))))) | (with_reducible refine skS ?_; simp only [upd_mk]) | with_reducible refine tdr fun KT hT => ?_ | with_reducible refine bY ?_)
       all_goals clear fx)
      refine k_rnd (j + 2) (imp_keep ?_ ?_ rfl) h (by omega)
      · simp [Keep, mk, wr64 (show -9223372036854775808 ≤ (j : Int) + 1 + 1 by omega) (by omega)]
        omega
      · simp [KeepT, mkT, st]
  · obtain rfl : k = l.length := by omega
    have e1 : decide ((l.length : Int) < (l.length : Int)) = false := by simp
    simp only [show ¬ l.length = 0 by omega, if_false]
    (have fx := (@e1)
     repeat' (first | with_reducible refine go ?_ | with_reducible refine t_region fun KT hT => ?_ | (refine gp fun KK hK => ?_; first | (refine hK _ _ ?_; clear hK KK) | (refine hK _ ?_; clear hK KK; try simp only [upd_mk]) | (refine ⟨by first | exact eq_hop, hK _ _ ?_⟩; clear hK KK) | (refine ⟨by first | exact eq_hop, hK _ (nz ?_)⟩; clear hK KK) | ((repeat refine And.intro (by first | omega | (rw [getD_map_lt (by omega)]; rfl) | (simp; first | done | omega)) ?_); first | (refine hK _ _ ?_; clear hK KK) | (refine hK _ ?_; clear hK KK; try simp only [upd_mk]))) | ((with_reducible first | refine o_nil (hT _ _ ?_) | refine h_nil (hT _ ?_)); clear hT KT) | ((first | refine gd fun AA BB hA hB => ?_ | refine tc fun AA BB hA hB => ?_); first | (refine go ?_; (first | refine hA ?_ | refine hB ?_); clear hA hB AA BB) | (refine go2 ?_ ?_ <;> intro hb <;> (first | refine hA ?_ | refine hB ?_) <;> clear hA hB AA BB <;> (try simp only [hb, decide_true, decide_false]) <;> (try (exfalso; first | (simp at hb; done) | (simp at hb; omega))))) | (with_reducible refine skS ?_; simp only [upd_mk]) | with_reducible refine tdr fun KT hT => ?_ | with_reducible refine bY ?_)
     all_goals clear fx)
    (refine (fin_own [1015] ?_).1; simp only [resQ, packD, OwnRes, callQ, viewL, view, noFsL, noFs, intsOf, Option.map_some, stp, hv, qv, ev, cD, scr, scrL, Ent.scr, flat, one, binQ, ldQ, storeQ, lay, Nat.reduceLT, Nat.reduceLeDiff, Nat.reduceAdd, Nat.reduceEqDiff, Nat.reduceMul, Nat.reduceSub, reduceIte, reduceCtorEq, fillQ, bne_iff_ne, Nat.reduceBNe, Nat.reduceBEq, rowsOf, cloL, clo, exists_eq_left', exists_and_left, appendQ, partsQ, Int.cast_ofNat_Int, Int.reduceBEq, Int.reduceBNe, Int.reduceLT, Int.reduceLE, Int.reduceEq, Int.reduceNe, Int.reduceAdd, Int.reduceSub, Int.reduceNeg, Int.reduceToNat, decide_true, decide_false, ne_eq, not_false_eq_true, true_and, and_true, Nat.add_zero, Nat.zero_add, Nat.not_lt_zero, Bool.not_true, Bool.not_false, Int.le_refl, bA, bB, ti3, ti107, hopRow, polRow, segRow, intRow, rowLen_ints, rowLen_nil, rowLen_cons, rowLen_append, List.length_append, byteRow, rowLen_bytes, bytesOf_map, bytesOf_cons, bytesOf_one, rowLen_strs, asRow, lkRow, tpRow, rowLen_hops, rowLen_ases, rowLen_links, bcRow, rowLen_bcs, List.take_length])
    exact ⟨rfl, rfl, by simp⟩

end Go.Proofs.Ytmiclkgkfkcnoaa
