/- The words of this part of the program (m). -/
import Derived.Test.YtelolknpcmjdeaaLl0
namespace Go.Proofs.Ytelolknpcmjdeaa
open Go.RowKit
set_option linter.unusedSimpArgs false
set_option linter.unusedVariables false
set_option maxRecDepth 100000
theorem any_stepA {l : List Hp} {p : Int → Bool} {k : Nat} (h : k < l.length) : (ases (l.take (k + 1))).any p = ((ases (l.take k)).any p || p l[k].asn) := by
  rw [List.take_succ_eq_append_getElem h]; simp only [ases, List.map_append, List.map_cons, List.map_nil, List.any_append, List.any_cons, List.any_nil, Bool.or_false]
theorem any_memA {l : List Hp} {p : Int → Bool} {k : Nat} (h : k < l.length) (hp : p l[k].asn = true) : (ases l).any p = true :=
  List.any_eq_true.2 ⟨l[k].asn, List.mem_map.2 ⟨l[k], List.getElem_mem h, rfl⟩, hp⟩
theorem wrap1 {n : Nat} (h : n < 4611686018427387904) : IntKind.i64.wrap ((n : Int) - 1) = (n : Int) - 1 := wr64 (by omega) (by omega)
theorem hopsOk_bad {t : Tp} {l : List Hp} {k : Nat} (h : k < l.length) (hp : hopP t l k = false) : hopsOkF t l = false := by
  rw [hopsOkF, allN_bad hp h, Bool.and_false]

theorem well_bad {t : Tp} {s : Sg} {k : Nat} (h : k < s.hops.length) (hp : lnkP t s.hops k = false) : wellF t s = false := by
  rw [wellF, allN_bad hp h, Bool.and_false]
theorem hopsOk_len {t : Tp} {l : List Hp} (h : hopsOkF t l = true) : 0 < l.length ∧ l.length ≤ 8 := by
  simp only [hopsOkF, inR, Bool.and_eq_true, decide_eq_true_eq] at h; omega

theorem well_eq (t : Tp) (s : Sg) : wellF t s = (inR s.hops.length 1 8 && ((s.hops.getD 0 hz).ing == 0) && allN (fun i => hopP t s.hops i && lnkP t s.hops i) s.hops.length) := by
  rw [allN_and, wellF, hopsOkF]
  cases inR s.hops.length 1 8 <;> cases ((s.hops.getD 0 hz).ing == 0) <;> simp

end Go.Proofs.Ytelolknpcmjdeaa
