/- Regions that draw their order: one walk in the text's order serves every order, where the operations only read or call. -/
import Derived.Test.YtelolknpcmjdeaaMj
import Derived.Still
namespace Go.Proofs.Ytelolknpcmjdeaa
open Go.RowKit

/-- the value of an operation that changes nothing that is known -/
def hv (P : Program) (M : Tab) (ρ : Operand → D) (K : D → Prop) : Op → Prop
  | .call c =>
    match c.callee with
    | .value (.func f) => ∃ r, (ACall P f (viewL M (c.args.toList.map ρ)) r [] ∧ noPtr r = true ∧ noFs r = true ∧ (noFsL (c.args.toList.map ρ) = true ∨ noSl r = true)) ∧ K r
    | _ => qv P M ρ K (.call c)
  | .buildSlice t len parts =>
    match (tI P t).d with
    | .slice _ es _ ez => es ≠ 0 ∧ ez.length = es ∧ len = parts.size ∧ len * es ≤ 16777216 ∧ partsQ es 0 (parts.toList.map fun p => (p.1, ρ p.2)) fun rows => K (.sl rows)
    | _ => False
  | op => qv P M ρ K op

def evs (ρ : Operand → D) (ps : Array (Nat × Operand)) : List (Nat × D) := ps.toList.map fun p => (p.1, ρ p.2)

theorem fillQ_ex {places : Nat → Option (Nat × Nat)} : ∀ (ps : List (Nat × D)) (cells : List D) (K : List D → Prop), fillQ places cells ps K → ∃ cs, fillQ places cells ps (· = cs) ∧ K cs
  | [], cells, K, h => ⟨cells, rfl, h⟩
  | (i, d) :: ps, cells, K, h => by
    simp only [fillQ] at h ⊢
    split at h
    · rename_i hh; obtain ⟨h1, h2, h3⟩ := h
      obtain ⟨cs, h4, h5⟩ := fillQ_ex ps _ K h3
      exact ⟨cs, ⟨h1, h2, h4⟩, h5⟩
    · exact h.elim
theorem partsQ_ex {es : Nat} : ∀ (ps : List (Nat × D)) (k : Nat) (K : List (List D) → Prop), partsQ es k ps K → ∃ rs, partsQ es k ps (· = rs) ∧ K rs
  | [], k, K, h => ⟨[], rfl, h⟩
  | (i, d) :: ps, k, K, h => by
    simp only [partsQ] at h ⊢
    split at h
    · rename_i cs hh
      obtain ⟨h1, h2, h3, h4, h5⟩ := h
      obtain ⟨rs, h6, h7⟩ := partsQ_ex ps (k + 1) _ h5
      refine ⟨cs :: rs, ⟨h1, h2, h3, h4, ?_⟩, h7⟩
      exact partsQ_mono (fun x hx => by rw [hx]) ps (k + 1) h6
    · exact h.elim
where
  partsQ_mono {es : Nat} {K K' : List (List D) → Prop} (hK : ∀ x, K x → K' x) : ∀ (ps : List (Nat × D)) (k : Nat), partsQ es k ps K → partsQ es k ps K' := by
    intro ps
    induction ps generalizing K K' with
    | nil => intro k h; exact hK _ h
    | cons p ps ih =>
      intro k h
      obtain ⟨i, d⟩ := p
      simp only [partsQ] at h ⊢
      split
      · rename_i cs hh; simp only [hh] at h
        exact ⟨h.1, h.2.1, h.2.2.1, h.2.2.2.1, ih (fun x hx => hK _ hx) (k + 1) h.2.2.2.2⟩
      · rename_i hh; simp only [hh] at h

theorem ldQ_ex {ti : TI} {cells : List D} {off : Nat} {K : D → Prop} (h : ldQ ti cells off K) : ∃ d, ldQ ti cells off (· = d) ∧ K d := by
  unfold ldQ at *
  split at h
  · exact ⟨_, ⟨h.1, rfl⟩, h.2⟩
  · exact h.elim
  · exact ⟨_, ⟨h.1, rfl⟩, h.2⟩

theorem binQ_ex {P : Program} {t : TypeId} {op : BinOp} {x y : D} {K : D → Prop} (h : binQ P t op x y K) : ∃ d, binQ P t op x y (· = d) ∧ K d := by
  unfold binQ at *
  split at h
  · cases op <;> simp only [] at h ⊢
    all_goals first
      | exact ⟨_, ⟨h.1, h.2.1, rfl⟩, h.2.2⟩
      | exact ⟨_, ⟨h.1, rfl⟩, h.2⟩
  · cases op <;> simp only [] at h ⊢
    all_goals first
      | exact h.elim
      | exact ⟨_, ⟨h.1, rfl⟩, h.2⟩
  · cases op <;> simp only [] at h ⊢
    all_goals first
      | exact h.elim
      | exact ⟨_, ⟨h.1, rfl⟩, h.2⟩
      | exact ⟨_, rfl, h⟩
  · cases op <;> simp only [] at h ⊢
    all_goals first
      | exact h.elim
      | (obtain ⟨is, js, h1, h2, h3, h4, h5⟩ := h; exact ⟨_, ⟨is, js, h1, h2, h3, h4, rfl⟩, h5⟩)
  · exact h.elim

theorem qv_ex {P : Program} {M : Tab} {ρ : Operand → D} {K : D → Prop} {op : Op} (h : qv P M ρ K op) : ∃ d, qv P M ρ (· = d) op ∧ K d := by
  unfold qv at h
  split at h
  case h_1 x => exact ⟨_, by simp only [qv], h⟩
  case h_2 x => exact ⟨_, by simp only [qv], h⟩
  case h_3 c x y =>
    split at h
    · rename_i hc; simp only [qv, hc]; exact ⟨_, rfl, h⟩
    · exact h.elim
  case h_4 t x =>
    split at h
    · rename_i hc; simp only [qv, hc]; exact ⟨_, rfl, h⟩
    · exact h.elim
  case h_5 t x =>
    split at h
    · rename_i hc; simp only [qv, hc]; exact ⟨_, rfl, h⟩
    · exact h.elim
  case h_6 => simp only [qv]; exact binQ_ex h
  case h_7 src dst x =>
    split at h
    · rename_i h1 h2 h3; simp only [qv, h1, h2, h3]; exact ⟨_, rfl, h⟩
    · rename_i h1 h2 h3; simp only [qv, h1, h2, h3]; exact ⟨_, rfl, h⟩
    · rename_i h1 h2; simp only [qv, h1, h2]
      obtain ⟨g1, rows, s, g2, g3, g4⟩ := h
      exact ⟨_, ⟨g1, rows, s, g2, g3, rfl⟩, g4⟩
    · exact h.elim
  case h_8 t x =>
    split at h
    · rename_i hc; simp only [qv, hc]
      split at h
      · rename_i hM; (try simp only [hM]); obtain ⟨d, h1, h2⟩ := ldQ_ex h.2; exact ⟨d, ⟨h.1, h1⟩, h2⟩
      · rename_i hM; (try simp only [hM]); obtain ⟨d, h1, h2⟩ := ldQ_ex h.2; exact ⟨d, ⟨h.1, h1⟩, h2⟩
      · exact h.elim
    · rename_i hc; simp only [qv, hc]; exact ldQ_ex h
    · exact h.elim
  case h_9 s x f =>
    split at h
    · rename_i h1 h2; simp only [qv, h1, h2]; exact ⟨_, ⟨h.1, h.2.1, rfl⟩, h.2.2⟩
    · rename_i h1 h2; simp only [qv, h1, h2]; exact ⟨_, ⟨h.1, h.2.1, rfl⟩, h.2.2⟩
    · exact h.elim
  case h_10 t x i =>
    split at h
    · rename_i h1 h2 h3; simp only [qv, h1, h2, h3]; exact ⟨_, ⟨h.1, h.2.1, h.2.2.1, h.2.2.2.1, rfl⟩, h.2.2.2.2⟩
    · rename_i h1 h2 h3; simp only [qv, h1, h2, h3]
      obtain ⟨rows, g1, g2, g3, g4, g5, g6⟩ := h
      exact ⟨_, ⟨rows, g1, g2, g3, g4, g5, rfl⟩, g6⟩
    · exact h.elim
  case h_11 t x i =>
    split at h
    · rename_i h1 h2 h3; simp only [qv, h1, h2, h3]; exact ⟨_, ⟨h.1, h.2.1, rfl⟩, h.2.2⟩
    · exact h.elim
  case h_12 x i =>
    split at h
    · rename_i h1; simp only [qv, h1]; exact ⟨_, ⟨h.1, rfl⟩, h.2⟩
    · exact h.elim
  case h_13 t x lo hi =>
    split at h
    · rename_i h1 h2; simp only [qv, h1, h2]
      obtain ⟨g1, g2, g3⟩ := h
      have bx : ∀ {z : Option Operand} {dflt : Nat} {KK : Nat → Prop}, boundQ ρ z dflt KK → ∃ m, boundQ ρ z dflt (· = m) ∧ KK m := by
        intro z dflt KK hz
        unfold boundQ at *
        split at hz
        · exact ⟨_, rfl, hz⟩
        · (try simp only)
          split at hz
          · rename_i hh; (try simp only [hh]); exact ⟨_, ⟨hz.1, rfl⟩, hz.2⟩
          · exact hz.elim
      have bm : ∀ {z : Option Operand} {dflt m : Nat} {KK : Nat → Prop}, boundQ ρ z dflt (· = m) → KK m → boundQ ρ z dflt KK := by
        intro z dflt m KK hz hk
        unfold boundQ at *
        split at hz
        · (try simp only at hz ⊢); rw [hz]; exact hk
        · (try simp only at hz ⊢)
          split at hz
          · rename_i hh; (try simp only [hh]); exact ⟨hz.1, by rw [hz.2]; exact hk⟩
          · exact hz.elim
      obtain ⟨l, e1, e2⟩ := bx g3
      obtain ⟨hh, e3, e4⟩ := bx e2
      exact ⟨_, ⟨g1, g2, bm e1 (bm e3 ⟨e4.1, e4.2.1, rfl⟩)⟩, e4.2.2⟩
    · exact h.elim
  case h_14 t parts =>
    split at h
    · rename_i h1; simp only [qv, h1]
      obtain ⟨g1, g2, g3⟩ := h
      obtain ⟨cs, g4, g5⟩ := fillQ_ex _ _ _ g3
      refine ⟨.agg cs, ⟨g1, g2, ?_⟩, g5⟩
      exact fillQ_mono (fun x hx => by rw [hx]) _ _ g4
    · exact h.elim
  case h_15 args ts =>
    split at h
    · rename_i h1 h2; simp only [qv, h1, h2]
      split at h
      · rename_i h3 h4; (try simp only [h3, h4]); exact ⟨_, rfl, h⟩
      · rename_i h3; (try simp only [h3])
        obtain ⟨rows, g1, g2⟩ := h
        exact ⟨_, ⟨rows, g1, rfl⟩, g2⟩
      · exact h.elim
    · exact h.elim
  case h_16 args ts =>
    split at h
    · rename_i h1; simp only [qv, h1]
      split at h
      · rename_i h3 h4; (try simp only [h3, h4]); exact ⟨_, rfl, h⟩
      · exact h.elim
    · exact h.elim
  case h_17 args ts =>
    split at h
    · rename_i h1; simp only [qv, h1]
      split at h
      · rename_i h3 h4; (try simp only [h3, h4]); exact ⟨_, rfl, h⟩
      · exact h.elim
    · exact h.elim
  case h_18 => exact h.elim
where
  fillQ_mono {places : Nat → Option (Nat × Nat)} {K K' : List D → Prop} (hK : ∀ x, K x → K' x) : ∀ (ps : List (Nat × D)) (cells : List D), fillQ places cells ps K → fillQ places cells ps K' := by
    intro ps
    induction ps with
    | nil => intro cells h; exact hK _ h
    | cons p ps ih =>
      intro cells h
      obtain ⟨i, d⟩ := p
      simp only [fillQ] at h ⊢
      split
      · rename_i hh1 hh2; simp only [hh1, hh2] at h
        exact ⟨h.1, h.2.1, ih _ h.2.2⟩
      · rename_i hh
        split at h
        · rename_i h1 h2; exact absurd h2 (hh _ _ _ h1)
        · exact h
end Go.Proofs.Ytelolknpcmjdeaa
