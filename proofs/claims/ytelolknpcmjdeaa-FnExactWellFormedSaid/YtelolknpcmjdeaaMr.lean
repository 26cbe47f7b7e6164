/- A contract whose new rows are only read from now on. -/
import Derived.Test.YtelolknpcmjdeaaMq
namespace Go.Proofs.Ytelolknpcmjdeaa
open Go.RowKit

theorem ACall.ro {P : Program} {f : FuncId} {ds : List D} {r : D} {rs : List (List (List D))} (h : ACall P f ds r rs) : ACall P f ds (view (tabOf rs) r) [] := by
  refine ⟨h.1, fun w vs Im him hvs => (h.2 w vs Im him hvs).mono ?_⟩
  rintro e w' ⟨v, he, hb, Im', β, h1, h2, h3, h4, h5⟩
  have hblk : ∀ k rows, rs[k]? = some rows → (β k).nil = false → (β k).blk < w'.heap.size := by
    intro k rows hk hn
    have := (h4 k rows hk).1
    simp only [EntOk] at this
    rcases this with ⟨g1, _⟩ | ⟨_, _, _, _, cur, e, g5, _⟩
    · rw [hn] at g1; cases g1
    · exact (Array.getElem?_eq_some_iff.1 g5).1
  refine ⟨v, he, hb, fun b => Im' b ∨ ∃ k, k < rs.length ∧ (β k).nil = false ∧ b = (β k).blk, β, ?_, ?_, ?_, by simp, by simp⟩
  · rintro b (hb | ⟨k, hk, hn, rfl⟩)
    · exact h1 b hb
    · exact .inr ((h4 k rs[k] (by simp [hk])).2 hn)
  · rintro b (hb | ⟨k, hk, hn, rfl⟩)
    · exact h2 b hb
    · exact hblk k rs[k] (by simp [hk]) hn
  · refine Rv_of_Rc _ _ (Rc_viewG (fun b hb => .inl hb) ?_ r v h3)
    intro id rows hid
    simp only [tabOf, Option.map_eq_some_iff, Ent.row.injEq] at hid
    obtain ⟨rows', h6, rfl⟩ := hid
    exact Rc_of_rows (fun b hb => .inl hb) (fun hn => .inr ⟨id, (List.getElem?_eq_some_iff.1 h6).1, hn, rfl⟩) (h4 id rows' h6).1
end Go.Proofs.Ytelolknpcmjdeaa
