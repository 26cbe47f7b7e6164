/- From a law's contract to its call. -/
import Derived.Test.YtelolknpcmjdeaaMo
namespace Go.Proofs.Ytelolknpcmjdeaa
open Go.RowKit

theorem law_calls {P : Program} {f : FuncId} {ds : List D} (h : ACall P f ds (.bool true) []) {w : World} {vs : List Value} (hv : RcL w (fun b => b < w.heap.size) ds vs) :
    Calls P f vs.toArray w fun e w' => e = .returned (.bool true) ∧ Below w.heap.size w w' := by
  refine (h.2 w vs _ (fun _ h => h) hv).mono ?_
  rintro e w' ⟨v, rfl, hb, Im, β, _, _, h3, _, _⟩
  refine ⟨?_, hb⟩
  simp only [Rv, Rc] at h3
  rw [h3]
theorem ints4 {x : List D} (h : IsL [.int .i64, .int .i64, .int .i64, .int .i64] x) : ∃ a b c d, x = [.int .i64 a, .int .i64 b, .int .i64 c, .int .i64 d] := by
  simp only [IsL, IsC] at h
  obtain ⟨_, _, rfl, ⟨a, rfl, _⟩, _, _, rfl, ⟨b, rfl, _⟩, _, _, rfl, ⟨c, rfl, _⟩, _, _, rfl, ⟨d, rfl, _⟩, rfl⟩ := h
  exact ⟨a, b, c, d, rfl⟩
theorem ints5 {x : List D} (h : IsL [.int .i64, .int .i64, .int .i64, .int .i64, .int .i64] x) : ∃ a b c d e, x = [.int .i64 a, .int .i64 b, .int .i64 c, .int .i64 d, .int .i64 e] := by
  simp only [IsL, IsC] at h
  obtain ⟨_, _, rfl, ⟨a, rfl, _⟩, _, _, rfl, ⟨b, rfl, _⟩, _, _, rfl, ⟨c, rfl, _⟩, _, _, rfl, ⟨d, rfl, _⟩, _, _, rfl, ⟨e, rfl, _⟩, rfl⟩ := h
  exact ⟨a, b, c, d, e, rfl⟩
theorem isInt {x : D} (h : IsC (.int .i64) x) : ∃ a, x = .int .i64 a := by
  simp only [IsC] at h
  obtain ⟨a, rfl, _⟩ := h
  exact ⟨a, rfl⟩
end Go.Proofs.Ytelolknpcmjdeaa
