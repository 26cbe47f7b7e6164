/- The words of this part of the program (e). -/
import Derived.Test.YtelolknpcmjdeaaLd0
namespace Go.Proofs.Ytelolknpcmjdeaa
open Go.RowKit
set_option linter.unusedSimpArgs false
set_option linter.unusedVariables false
set_option maxRecDepth 100000
def segIds (s : Sg) : List Int := s.ts :: s.beta :: s.hops.flatMap fun h => [h.asn, h.ing, h.eg, h.ex]
abbrev idsK (s : Sg) (k : Nat) : List Int := segIds ⟨s.ts, s.beta, s.hops.take k⟩
theorem idsK_len (s : Sg) (k : Nat) (h : k ≤ s.hops.length) : (idsK s k).length = 2 + 4 * k := by
  have : ∀ l : List Hp, (l.flatMap fun h => [h.asn, h.ing, h.eg, h.ex]).length = 4 * l.length := by
    intro l; induction l with
    | nil => simp
    | cons x l ih => simp only [List.flatMap_cons, List.length_append, ih, List.length_cons, List.length_nil]; omega
  simp only [idsK, segIds, List.length_cons, this, List.length_take]; omega
theorem idsK_step (s : Sg) (k : Nat) (h : k < s.hops.length) : idsK s (k + 1) = idsK s k ++ [s.hops[k].asn, s.hops[k].ing, s.hops[k].eg, s.hops[k].ex] := by
  simp only [idsK, segIds, List.take_succ_eq_append_getElem h, List.flatMap_append, List.flatMap_cons, List.flatMap_nil, List.append_nil, List.cons_append]
def encodable (s : Sg) : Bool := inR s.ts 0 1000000 && inR s.beta 0 2147483646 && decide (s.hops.length ≤ 8) && s.hops.all validHop
theorem all_step {l : List Hp} {p : Hp → Bool} {k : Nat} (h : k < l.length) : (l.take (k + 1)).all p = ((l.take k).all p && p l[k]) := by
  rw [List.take_succ_eq_append_getElem h]; simp only [List.all_append, List.all_cons, List.all_nil, Bool.and_true]
theorem not_all {l : List Hp} {p : Hp → Bool} {k : Nat} (h : k < l.length) (hp : p l[k] = false) : l.all p = false := by
  rw [List.all_eq_false]; exact ⟨l[k], List.getElem_mem h, by simp [hp]⟩

end Go.Proofs.Ytelolknpcmjdeaa
