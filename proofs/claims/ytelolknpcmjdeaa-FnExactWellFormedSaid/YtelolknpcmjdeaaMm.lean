/- The steps of a drawn region as they are taken in a proof. -/
import Derived.Test.YtelolknpcmjdeaaMl
import Derived.Test.YtelolknpcmjdeaaMn
namespace Go.Proofs.Ytelolknpcmjdeaa
open Go.RowKit

section
variable {P : Program} {n : Nat} {σ : Slots} {M : Tab} {ops : Array Oper} {K : Slots → Prop}
theorem h_nil (h : K σ) : hOps P n M ops [] σ K := h
theorem h_plain {dst : Nat} {op : Op} {type : TypeId} {pos : String} {after : Array Edge} {rest : List Oper} (hd : dst < n)
    (h : ∀ K' : D → Prop, (∀ d, hOps P n M ops rest (upd σ dst d) K → K' d) → hv P M (ev σ) K' op) : hOps P n M ops (⟨some dst, op, type, pos, after, none⟩ :: rest) σ K := by
  simp only [hOps, guardQ]
  exact ⟨by intro t ht; cases ht; exact hd, h _ (fun _ h => h)⟩
theorem h_none {op : Op} {type : TypeId} {pos : String} {after : Array Edge} {rest : List Oper}
    (h : ∀ K' : D → Prop, (∀ d, hOps P n M ops rest σ K → K' d) → hv P M (ev σ) K' op) : hOps P n M ops (⟨none, op, type, pos, after, none⟩ :: rest) σ K := by
  simp only [hOps, guardQ]
  exact ⟨by simp, h _ (fun _ h => h)⟩
theorem h_guard {dst : Option Tmp} {op : Op} {type : TypeId} {pos : String} {after : Array Edge} {j : Nat} {want : Bool} {rest : List Oper} (d : Nat) (hd : (ops[j]?).bind (·.dst) = some d)
    (h : ∀ A B : Prop, (hOps P n M ops (⟨dst, op, type, pos, after, none⟩ :: rest) σ K → A) → (skipQ n dst σ (fun σ' => hOps P n M ops rest σ' K) → B) → grdQ (σ d) want A B) :
    hOps P n M ops (⟨dst, op, type, pos, after, some (j, want)⟩ :: rest) σ K := by
  have := h _ _ id id
  simp only [hOps, guardQ, hd]
  simpa only [hOps, guardQ] using this
end

end Go.Proofs.Ytelolknpcmjdeaa
