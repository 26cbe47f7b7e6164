/- The evaluator: regions that draw their order, loops, arguments. -/
import Derived.Test.YtmiclkgkfkcnoaaGreatMM
import Derived.Still
import Derived.ProofKit
import Derived.StillTail
import Derived.ChangeKeysEq
/- Regions that draw their order: one walk in the text's order serves every order, where the operations only read or call. -/
namespace Go.Proofs.YtmiclkgkfkcnoaaGreat
open Go.RowKit

def hv (P : Program) (M : Tab) (ρ : Operand → D) (K : D → Prop) : Op → Prop
  | .call c =>
    match c.callee with
    | .value (.func f) => ∃ r, (ACall P f (viewL M (c.args.toList.map ρ)) r [] ∧ noPtr r = true ∧ noFs r = true ∧ (noFsL (c.args.toList.map ρ) = true ∨ noSl r = true)) ∧ K r
    | _ => qv P M ρ K (.call c)
  | .buildSlice t len parts =>
    match (tI P t).d with
    | .slice _ es _ ez => es ≠ 0 ∧ ez.length = es ∧ len = parts.size ∧ len * es ≤ 16777216 ∧ partsQ es 0 (parts.toList.map fun p => (p.1, ρ p.2)) fun rows => K (.sl rows)
    | _ => False
  | op => qv P M ρ K op

theorem fillQ_ex {places : Nat → Option (Nat × Nat)} : ∀ (ps : List (Nat × D)) (cells : List D) (K : List D → Prop), fillQ places cells ps K → ∃ cs, fillQ places cells ps (· = cs) ∧ K cs
  | [], cells, K, h => ⟨cells, rfl, h⟩
  | (i, d) :: ps, cells, K, h => by
    simp only [fillQ] at h ⊢
    split at h
    · rename_i hh; obtain ⟨h1, h2, h3⟩ := h
      obtain ⟨cs, h4, h5⟩ := fillQ_ex ps _ K h3
      exact ⟨cs, ⟨h1, h2, h4⟩, h5⟩
    · exact h.elim
theorem partsQ_ex {es : Nat} : ∀ (ps : List (Nat × D)) (k : Nat) (K : List (List D) → Prop), partsQ es k ps K → ∃ rs, partsQ es k ps (· = rs) ∧ K rs
  | [], k, K, h => ⟨[], rfl, h⟩
  | (i, d) :: ps, k, K, h => by
    simp only [partsQ] at h ⊢
    split at h
    · rename_i cs hh
      obtain ⟨h1, h2, h3, h4, h5⟩ := h
      obtain ⟨rs, h6, h7⟩ := partsQ_ex ps (k + 1) _ h5
      refine ⟨cs :: rs, ⟨h1, h2, h3, h4, ?_⟩, h7⟩
      exact partsQ_mono (fun x hx => by rw [hx]) ps (k + 1) h6
    · exact h.elim
where
  partsQ_mono {es : Nat} {K K' : List (List D) → Prop} (hK : ∀ x, K x → K' x) : ∀ (ps : List (Nat × D)) (k : Nat), partsQ es k ps K → partsQ es k ps K' := by
    intro ps
    induction ps generalizing K K' with
    | nil => intro k h; exact hK _ h
    | cons p ps ih =>
      intro k h
      obtain ⟨i, d⟩ := p
      simp only [partsQ] at h ⊢
      split
      · rename_i cs hh; simp only [hh] at h
        exact ⟨h.1, h.2.1, h.2.2.1, h.2.2.2.1, ih (fun x hx => hK _ hx) (k + 1) h.2.2.2.2⟩
      · rename_i hh; simp only [hh] at h

theorem ldQ_ex {ti : TI} {cells : List D} {off : Nat} {K : D → Prop} (h : ldQ ti cells off K) : ∃ d, ldQ ti cells off (· = d) ∧ K d := by
  unfold ldQ at *
  split at h
  · exact ⟨_, ⟨h.1, rfl⟩, h.2⟩
  · exact h.elim
  · exact ⟨_, ⟨h.1, rfl⟩, h.2⟩

theorem binQ_ex {P : Program} {t : TypeId} {op : BinOp} {x y : D} {K : D → Prop} (h : binQ P t op x y K) : ∃ d, binQ P t op x y (· = d) ∧ K d := by
  unfold binQ at *
  split at h
  · cases op <;> simp only [] at h ⊢
    all_goals first
      | exact ⟨_, ⟨h.1, h.2.1, rfl⟩, h.2.2⟩
      | exact ⟨_, ⟨h.1, rfl⟩, h.2⟩
  · cases op <;> simp only [] at h ⊢
    all_goals first
      | exact h.elim
      | exact ⟨_, ⟨h.1, rfl⟩, h.2⟩
  · cases op <;> simp only [] at h ⊢
    all_goals first
      | exact h.elim
      | exact ⟨_, ⟨h.1, rfl⟩, h.2⟩
      | exact ⟨_, rfl, h⟩
  · cases op <;> simp only [] at h ⊢
    all_goals first
      | exact h.elim
      | (obtain ⟨is, js, h1, h2, h3, h4, h5⟩ := h; exact ⟨_, ⟨is, js, h1, h2, h3, h4, rfl⟩, h5⟩)
  · exact h.elim

theorem qv_ex {P : Program} {M : Tab} {ρ : Operand → D} {K : D → Prop} {op : Op} (h : qv P M ρ K op) : ∃ d, qv P M ρ (· = d) op ∧ K d := by
  unfold qv at h
  split at h
  case h_1 x => exact ⟨_, by simp only [qv], h⟩
  case h_2 x => exact ⟨_, by simp only [qv], h⟩
  case h_3 c x y =>
    split at h
    · rename_i hc; simp only [qv, hc]; exact ⟨_, rfl, h⟩
    · exact h.elim
  case h_4 t x =>
    split at h
    · rename_i hc; simp only [qv, hc]; exact ⟨_, rfl, h⟩
    · exact h.elim
  case h_5 t x =>
    split at h
    · rename_i hc; simp only [qv, hc]; exact ⟨_, rfl, h⟩
    · exact h.elim
  case h_6 => simp only [qv]; exact binQ_ex h
  case h_7 src dst x =>
    split at h
    · rename_i h1 h2 h3; simp only [qv, h1, h2, h3]; exact ⟨_, rfl, h⟩
    · rename_i h1 h2 h3; simp only [qv, h1, h2, h3]; exact ⟨_, rfl, h⟩
    · rename_i h1 h2; simp only [qv, h1, h2]
      obtain ⟨g1, rows, s, g2, g3, g4⟩ := h
      exact ⟨_, ⟨g1, rows, s, g2, g3, rfl⟩, g4⟩
    · exact h.elim
  case h_8 t x =>
    split at h
    · rename_i hc; simp only [qv, hc]
      split at h
      · rename_i hM; (try simp only [hM]); obtain ⟨d, h1, h2⟩ := ldQ_ex h.2; exact ⟨d, ⟨h.1, h1⟩, h2⟩
      · rename_i hM; (try simp only [hM]); obtain ⟨d, h1, h2⟩ := ldQ_ex h.2; exact ⟨d, ⟨h.1, h1⟩, h2⟩
      · exact h.elim
    · rename_i hc; simp only [qv, hc]; exact ldQ_ex h
    · exact h.elim
  case h_9 s x f =>
    split at h
    · rename_i h1 h2; simp only [qv, h1, h2]; exact ⟨_, ⟨h.1, h.2.1, rfl⟩, h.2.2⟩
    · rename_i h1 h2; simp only [qv, h1, h2]; exact ⟨_, ⟨h.1, h.2.1, rfl⟩, h.2.2⟩
    · exact h.elim
  case h_10 t x i =>
    split at h
    · rename_i h1 h2 h3; simp only [qv, h1, h2, h3]; exact ⟨_, ⟨h.1, h.2.1, h.2.2.1, h.2.2.2.1, rfl⟩, h.2.2.2.2⟩
    · rename_i h1 h2 h3; simp only [qv, h1, h2, h3]
      obtain ⟨rows, g1, g2, g3, g4, g5, g6⟩ := h
      exact ⟨_, ⟨rows, g1, g2, g3, g4, g5, rfl⟩, g6⟩
    · exact h.elim
  case h_11 t x i =>
    split at h
    · rename_i h1 h2 h3; simp only [qv, h1, h2, h3]; exact ⟨_, ⟨h.1, h.2.1, rfl⟩, h.2.2⟩
    · exact h.elim
  case h_12 x i =>
    split at h
    · rename_i h1; simp only [qv, h1]; exact ⟨_, ⟨h.1, rfl⟩, h.2⟩
    · exact h.elim
  case h_13 t x lo hi =>
    have bx : ∀ {z : Option Operand} {dflt : Nat} {KK : Nat → Prop}, boundQ ρ z dflt KK → ∃ m, boundQ ρ z dflt (· = m) ∧ KK m := by
      intro z dflt KK hz
      unfold boundQ at *
      split at hz
      · exact ⟨_, rfl, hz⟩
      · (try simp only)
        split at hz
        · rename_i hh; (try simp only [hh]); exact ⟨_, ⟨hz.1, rfl⟩, hz.2⟩
        · exact hz.elim
    have bm : ∀ {z : Option Operand} {dflt m : Nat} {KK : Nat → Prop}, boundQ ρ z dflt (· = m) → KK m → boundQ ρ z dflt KK := by
      intro z dflt m KK hz hk
      unfold boundQ at *
      split at hz
      · (try simp only at hz ⊢); rw [hz]; exact hk
      · (try simp only at hz ⊢)
        split at hz
        · rename_i hh; (try simp only [hh]); exact ⟨hz.1, by rw [hz.2]; exact hk⟩
        · exact hz.elim
    split at h
    · rename_i h1 h2; simp only [qv, h1, h2]
      obtain ⟨g1, g2, g3⟩ := h
      obtain ⟨l, e1, e2⟩ := bx g3
      obtain ⟨hh, e3, e4⟩ := bx e2
      exact ⟨_, ⟨g1, g2, bm e1 (bm e3 ⟨e4.1, e4.2.1, rfl⟩)⟩, e4.2.2⟩
    · rename_i h1 h2; simp only [qv, h1, h2]
      obtain ⟨rows, g0, g9, g1, g2, g3⟩ := h
      obtain ⟨l, e1, e2⟩ := bx g3
      obtain ⟨hh, e3, e4⟩ := bx e2
      exact ⟨_, ⟨rows, g0, g9, g1, g2, bm e1 (bm e3 ⟨e4.1, e4.2.1, rfl⟩)⟩, e4.2.2⟩
    · exact h.elim
  case h_14 t parts =>
    split at h
    · rename_i h1; simp only [qv, h1]
      obtain ⟨g1, g2, g3⟩ := h
      obtain ⟨cs, g4, g5⟩ := fillQ_ex _ _ _ g3
      refine ⟨.agg cs, ⟨g1, g2, ?_⟩, g5⟩
      exact fillQ_mono (fun x hx => by rw [hx]) _ _ g4
    · exact h.elim
  case h_15 args ts =>
    split at h
    · rename_i h1 h2; simp only [qv, h1, h2]
      split at h
      · rename_i h3 h4; (try simp only [h3, h4]); exact ⟨_, rfl, h⟩
      · rename_i h3; (try simp only [h3])
        obtain ⟨rows, g1, g2⟩ := h
        exact ⟨_, ⟨rows, g1, rfl⟩, g2⟩
      · exact h.elim
    · exact h.elim
  case h_16 args ts =>
    split at h
    · rename_i h1; simp only [qv, h1]
      split at h
      · rename_i h3 h4; (try simp only [h3, h4]); exact ⟨_, rfl, h⟩
      · exact h.elim
    · exact h.elim
  case h_17 args ts =>
    split at h
    · rename_i h1; simp only [qv, h1]
      split at h
      · rename_i h3 h4; (try simp only [h3, h4]); exact ⟨_, rfl, h⟩
      · exact h.elim
    · exact h.elim
  case h_18 x =>
    split at h
    · rename_i hc; simp only [qv, hc]; exact ⟨_, rfl, h⟩
    · rename_i hc; simp only [qv, hc]; exact ⟨_, rfl, h⟩
    · exact h.elim
  case h_19 => exact h.elim
where
  fillQ_mono {places : Nat → Option (Nat × Nat)} {K K' : List D → Prop} (hK : ∀ x, K x → K' x) : ∀ (ps : List (Nat × D)) (cells : List D), fillQ places cells ps K → fillQ places cells ps K' := by
    intro ps
    induction ps with
    | nil => intro cells h; exact hK _ h
    | cons p ps ih =>
      intro cells h
      obtain ⟨i, d⟩ := p
      simp only [fillQ] at h ⊢
      split
      · rename_i hh1 hh2; simp only [hh1, hh2] at h
        exact ⟨h.1, h.2.1, ih _ h.2.2⟩
      · rename_i hh
        split at h
        · rename_i h1 h2; exact absurd h2 (hh _ _ _ h1)
        · exact h
end Go.Proofs.YtmiclkgkfkcnoaaGreat

/- Regions that draw their order, second part. -/
namespace Go.Proofs.YtmiclkgkfkcnoaaGreat
open Go.RowKit

theorem hv_ex {P : Program} {M : Tab} {ρ : Operand → D} {K : D → Prop} {op : Op} (h : hv P M ρ K op) : ∃ d, hv P M ρ (· = d) op ∧ K d := by
  unfold hv at h
  split at h
  · rename_i c
    split at h
    · rename_i f hc
      obtain ⟨r, h1, h2⟩ := h
      exact ⟨r, by simp only [hv, hc]; exact ⟨r, h1, rfl⟩, h2⟩
    · rename_i hc
      obtain ⟨d, h1, h2⟩ := qv_ex h
      refine ⟨d, ?_, h2⟩
      unfold hv
      simp only
      exact h1
  · rename_i t len parts
    split at h
    · rename_i hd
      obtain ⟨h1, h2, h3, h4, h5⟩ := h
      obtain ⟨rs, h6, h7⟩ := partsQ_ex _ _ _ h5
      refine ⟨.sl rs, ?_, h7⟩
      simp only [hv, hd]
      exact ⟨h1, h2, h3, h4, partsQ_ex.partsQ_mono (fun x hx => by rw [hx]) _ _ h6⟩
    · exact h.elim
  · rename_i op' hc hb
    obtain ⟨d, h1, h2⟩ := qv_ex h
    refine ⟨d, ?_, h2⟩
    unfold hv
    split
    · rename_i c; exact absurd rfl (hc c)
    · rename_i t len parts; exact absurd rfl (hb t len parts)
    · exact h1

theorem map_congr {ρ ρ' : Operand → D} {xs : List Operand} (h : ∀ x ∈ xs, ρ x = ρ' x) : xs.map ρ = xs.map ρ' := List.map_congr_left h

theorem qv_congr {P : Program} {M : Tab} {ρ ρ' : Operand → D} {K : D → Prop} (op : Op) (h : ∀ x ∈ op.operands, ρ x = ρ' x) : qv P M ρ K op → qv P M ρ' K op := by
  intro hq
  have hb : ∀ {z : Option Operand} {dflt : Nat} {KK : Nat → Prop}, (∀ x ∈ z.toArray, ρ x = ρ' x) → boundQ ρ z dflt KK = boundQ ρ' z dflt KK := by
    intro z dflt KK hz
    unfold boundQ
    cases z with
    | none => rfl
    | some o => simp only; rw [hz o (by simp)]
  unfold qv at hq ⊢
  split at hq
  case h_1 x => rw [← h x (by simp [Op.operands])]; exact hq
  case h_2 x => rw [← h x (by simp [Op.operands])]; exact hq
  case h_3 c x y => rw [← h x (by simp [Op.operands]), ← h y (by simp [Op.operands]), ← h c (by simp [Op.operands])]; exact hq
  case h_4 t x => rw [← h x (by simp [Op.operands])]; exact hq
  case h_5 t x => rw [← h x (by simp [Op.operands])]; exact hq
  case h_6 op t x y t' => rw [← h x (by simp [Op.operands]), ← h y (by simp [Op.operands])]; exact hq
  case h_7 s d x => rw [← h x (by simp [Op.operands])]; exact hq
  case h_8 t x => rw [← h x (by simp [Op.operands])]; exact hq
  case h_9 s x f => rw [← h x (by simp [Op.operands])]; exact hq
  case h_10 t x i => rw [← h x (by simp [Op.operands]), ← h i (by simp [Op.operands])]; exact hq
  case h_11 t x i => rw [← h x (by simp [Op.operands]), ← h i (by simp [Op.operands])]; exact hq
  case h_12 x i => rw [← h x (by simp [Op.operands])]; exact hq
  case h_13 t x lo hi =>
    rw [← h x (by simp [Op.operands])]
    simp only [← hb (z := lo) (fun y hy => h y (by simp [Op.operands] at hy ⊢; simp [hy])), ← hb (z := hi) (fun y hy => h y (by simp [Op.operands] at hy ⊢; simp [hy]))]
    exact hq
  case h_14 t parts =>
    have : (parts.toList.map fun p => (p.1, ρ p.2)) = parts.toList.map fun p => (p.1, ρ' p.2) := by
      apply List.map_congr_left
      intro p hp
      rw [h p.2 (by simp only [Op.operands]; exact Array.mem_toList_iff.1 (by simpa using ⟨p.1, by simpa using hp⟩))]
    rw [← this]; exact hq
  case h_15 args ts =>
    revert hq
    split
    · rename_i x t h1 h2
      rw [← h x (by simp only [Op.operands, Call.operands]; simp [← Array.mem_toList_iff, h1])]
      exact fun hq => hq
    · exact fun hq => hq
  case h_16 args ts =>
    revert hq
    split
    · rename_i x y h1
      rw [← h x (by simp only [Op.operands, Call.operands]; simp [← Array.mem_toList_iff, h1]), ← h y (by simp only [Op.operands, Call.operands]; simp [← Array.mem_toList_iff, h1])]
      exact fun hq => hq
    · exact fun hq => hq
  case h_17 args ts =>
    revert hq
    split
    · rename_i x y h1
      rw [← h x (by simp only [Op.operands, Call.operands]; simp [← Array.mem_toList_iff, h1]), ← h y (by simp only [Op.operands, Call.operands]; simp [← Array.mem_toList_iff, h1])]
      exact fun hq => hq
    · exact fun hq => hq
  case h_18 x => rw [← h x (by simp [Op.operands])]; exact hq
  case h_19 => exact hq.elim

theorem hv_congr {P : Program} {M : Tab} {ρ ρ' : Operand → D} {K : D → Prop} (op : Op) (h : ∀ x ∈ op.operands, ρ x = ρ' x) (hq : hv P M ρ K op) : hv P M ρ' K op := by
  unfold hv at hq ⊢
  split at hq
  · rename_i c
    have hm : c.args.toList.map ρ = c.args.toList.map ρ' := List.map_congr_left fun x hx => h x (by
      simp only [Op.operands, Call.operands, Array.mem_append]
      exact .inr (Array.mem_toList_iff.1 hx))
    (try simp only)
    split at hq
    · rename_i f hc; (try simp only [hc]); rw [← hm]; exact hq
    · rename_i hc
      have := qv_congr (.call c) h hq
      first | exact this | (split; · (rename_i f hf; exact absurd hf (hc f)); · exact this)
  · rename_i t len parts
    have : (parts.toList.map fun p => (p.1, ρ p.2)) = parts.toList.map fun p => (p.1, ρ' p.2) := by
      apply List.map_congr_left
      intro p hp
      rw [h p.2 (by simp only [Op.operands]; exact Array.mem_toList_iff.1 (by simpa using ⟨p.1, by simpa using hp⟩))]
    (try simp only)
    rw [← this]; exact hq
  · rename_i op' hc hb
    exact qv_congr _ h hq

mutual
theorem ren_noFs (dst : Nat) : ∀ (d : D), noFs d = true → ren dst d = d
  | .int .., _ | .bool _, _ | .str _, _ | .nov, _ | .any, _ | .nl, _ | .sl _, _ | .ep .., _ | .ptr .., _ => by simp [ren]
  | .fs _, h | .fp .., h => by simp [noFs] at h
  | .agg cs, h => by simp only [noFs] at h; simp only [ren, renL_noFs dst cs h]
  | .tup cs, h => by simp only [noFs] at h; simp only [ren, renL_noFs dst cs h]
theorem renL_noFs (dst : Nat) : ∀ (ds : List D), noFsL ds = true → renL dst ds = ds
  | [], _ => rfl
  | d :: ds, h => by
    simp only [noFsL, Bool.and_eq_true] at h
    simp only [renL, ren_noFs dst d h.1, renL_noFs dst ds h.2]
end

section
variable {B0 : Nat} {X : Xs} {I0 : Nat → Prop} {w0 : World} {n : Nat} {Im : Nat → Prop} {β : Nat → RowG} {σ : Nat → D} {M : Nat → Option Ent} {a : Act} {w : World} {P : Program}

theorem hv_sound (h : StG B0 X I0 w0 n Im β σ M a w) {o : Oper} {r : D} (hq : hv P M (ev σ) (· = r) o.op) (K' : Act → World → Prop) (Q : Exit → Act → World → Prop)
    (hk : ∀ v w' Im' β', StG B0 X I0 w0 n Im' β' σ M a w' → Rv w' Im' β' M r v → K' (a.put o.dst v) w') : o.wp P a w K' Q := by
  obtain ⟨dst, op, type, pos, after, guard⟩ := o
  simp only at hq
  have quiet : qv P M (ev σ) (· = r) op → (Oper.mk dst op type pos after guard).wp P a w K' Q := by
    intro hq
    obtain ⟨v, d, h1, h2, rfl⟩ := qv_sound (o := ⟨dst, op, type, pos, after, guard⟩) h hq
    unfold Oper.wp
    rw [h1]
    exact hk v w Im β h h2
  unfold hv at hq
  split at hq
  · rename_i c
    obtain ⟨callee, args, ts⟩ := c
    simp only at hq
    split at hq
    · rename_i f
      obtain ⟨r', ⟨h1, h2, h3, h4⟩, rfl⟩ := hq
      have hc := call_sound h (RvL_evs h args.toList) h1 h2 (h4.imp id (fun h5 => ⟨h5, by simp⟩)) 0
      have hcl := h1.1
      have hrun : (execOp a.eval ⟨dst, .call ⟨.value (.func f), args, ts⟩, type, pos, after, guard⟩).run P w = .ok (.enter f (args.map a.eval)) w := by
        unfold callable at hcl
        cases hf : P.funcs[f]? with
        | none => rw [hf] at hcl; cases hcl
        | some fn =>
          rw [hf] at hcl
          simp only [Bool.and_eq_true, bne_iff_ne, ne_eq] at hcl
          obtain ⟨hn, hb⟩ := hcl
          obtain ⟨b, hb⟩ := Option.isSome_iff_exists.1 hb
          simp [execOp, resolve, Act.eval, Deferred.ofValue, invoke, callFunc, hf, hn, hb]
      unfold Oper.wp
      rw [hrun]
      simp only [Oper.upon]
      have e1 : (args.toList.map a.eval).toArray = args.map a.eval := by
        apply Array.toList_inj.1; simp
      rw [e1] at hc
      refine hc.mono ?_
      rintro e w' ⟨v, Im', β', rfl, h5, h6⟩
      rw [ren_noFs 0 r' h3] at h6
      exact hk v w' Im' β' h5 h6
    · exact quiet hq
  · rename_i t len parts
    split at hq
    · rename_i e es eb ez htd
      obtain ⟨h1, h2, rfl, h4, h5⟩ := hq
      obtain ⟨hu, hes, heb, hez⟩ := tI_slice htd
      have hes0 := h1
      rw [hes] at hes0
      obtain ⟨i, hi, hisz⟩ := info_of_size hes0
      have hsi : es = i.size := by rw [hes, hisz]
      obtain ⟨z, hz⟩ : ∃ z, i.zero = some z := by
        cases hz : i.zero with
        | none => simp [zerosOf, hi, hz] at hez; subst hez; simp at h2; omega
        | some z => exact ⟨z, rfl⟩
      have main : ∀ (rest : List Value), rest.length = parts.toList.length * es →
          (∀ cs : List Value, Instr.fill (fun i => some (i * es, es)) rest.toArray (parts.toList.map fun p => (p.1, a.eval p.2)) = some cs.toArray → (Instr.buildSlice t parts.size (parts.map fun (i, x) => (i, a.eval x))).run P w = .ok (.slice (some ⟨w.heap.size, 0, none⟩) parts.size parts.size) (w.alloc (.cells cs.toArray e))) →
          (Oper.mk dst (.buildSlice t parts.size parts) type pos after guard).wp P a w K' Q := by
        intro rest hrest hrun
        obtain ⟨rows, cs, g1, g2, g3, g4, g5, g6⟩ := parts_sound h parts.toList 0 _ [] rest h5 (by simp) hrest
        simp only [List.nil_append] at g1
        have hps : rows.length = parts.size := by rw [g4]; simp
        subst g6
        have hbel : Below w.heap.size w (w.alloc (.cells cs.toArray e)) := (Below.refl _ _).alloc (Nat.le_refl _) _
        have hst := h.grow hbel (fun b => Im b ∨ b = w.heap.size) (fun _ hb => .inl hb) (fun b hb => hb.imp id (fun hb => by omega)) (fun b hb => by
          rcases hb with hb | hb
          · have := h.im b hb; simp; omega
          · subst hb; simp)
        have hcc : ∀ b o, Im b → (w.alloc (.cells cs.toArray e)).cell? ⟨b, o, none⟩ = w.cell? ⟨b, o, none⟩ := fun b o hb => World.cell?_of_block (w := w) (heap_alloc_below w _ b (h.im b hb))
        have hent : EntOk (w.alloc (.cells cs.toArray e)) Im β M ⟨w.heap.size, rows.length, es, false⟩ (.row rows) := by
          simp only [EntOk]
          exact .inr ⟨trivial, fun hi => Nat.lt_irrefl _ (h.im _ hi), Nat.le_refl _, ⟨by rw [hps]; have : parts.size * 1 ≤ parts.size * es := Nat.mul_le_mul_left _ (by omega); unfold maxLen; omega, fun hh => by simp [hh]⟩, cs.toArray, e, heap_alloc_new w _, by simpa using g3, by simpa using g5, by simpa using RcRowsL_mono hcc (fun _ h => h) _ _ _ g2⟩
        have hrc := Rc_of_rows (Im' := fun b => Im b ∨ b = w.heap.size) (fun _ hb => .inl hb) (fun _ => .inr rfl) hent
        have hv' : Rv (w.alloc (.cells cs.toArray e)) (fun b => Im b ∨ b = w.heap.size) β M (.sl rows) (.slice (some ⟨w.heap.size, 0, none⟩) parts.size parts.size) := by
          simp only [RowG.val] at hrc
          simp only [Rv]
          simpa [hps] using hrc
        unfold Oper.wp
        simp only [execOp, Sem.run_bind, hrun cs g1, Result.andThen_ok]
        exact hk _ _ _ _ hst hv'
      by_cases h0 : parts.size * i.size = 0
      · have hp0 : parts.size = 0 := by
          rcases Nat.mul_eq_zero.1 h0 with h0 | h0
          · exact h0
          · omega
        refine main [] (by simp [hp0]) ?_
        intro cs hcs
        have hparts : parts = #[] := Array.eq_empty_of_size_eq_zero hp0
        subst hparts
        simp [Instr.fill] at hcs
        subst hcs
        simp [Instr.buildSlice, run_underlying hu, Go.sizeOf, typeInfo, hi, Instr.fill, newRow, Array.range_zero']
      · refine main ((Array.range (parts.size * i.size)).map (z.cells[· % z.cells.size]!)).toList (by simp [hsi]) ?_
        intro cs hcs
        rw [Array.toArray_toList] at hcs
        refine run_buildSlice w t e parts.size _ cs.toArray i z hu hi hz ?_ h0 ?_
        · rw [← hsi]; omega
        · rw [← hsi]
          simpa [hsi] using hcs
    · exact hq.elim
  · exact quiet hq
end

/-! ### whatever order -/
def putA (σ : Slots) (dst : Option Tmp) (d : D) : Slots := match dst with | some t => upd σ t d | none => σ

def wantA (ops : Array Oper) (σ : Slots) (o : Oper) : Option Bool :=
  match o.guard with
  | none => some true
  | some (j, want) =>
    match (ops[j]?).bind (·.dst) with
    | some d => match σ d with
      | .bool b => some (b == want)
      | .nov => some false
      | _ => none
    | none => some false
def YA (P : Program) (n : Nat) (M : Tab) (ops : Array Oper) (o : Oper) (d : D) (σ : Slots) : Prop :=
  (∀ t, o.dst = some t → t < n) ∧ ((wantA ops σ o = some true ∧ hv P M (ev σ) (· = d) o.op) ∨ (wantA ops σ o = some false ∧ d = .nov))
def hOp (P : Program) (n : Nat) (M : Tab) (ops : Array Oper) (i : Nat) (K : Slots → Prop) (σ : Slots) : Prop :=
  match ops[i]? with
  | none => K σ
  | some o => ∃ d, YA P n M ops o d σ ∧ K (putA σ o.dst d)
def hAny (P : Program) (n : Nat) (M : Tab) (md : Region.Mode) (ops : Array Oper) (Q : Slots → Prop) : Nat → Array Bool → Slots → Prop
  | 0, listed, σ => Region.ready md ops listed = [] ∧ Q σ
  | fuel + 1, listed, σ =>
    (Region.ready md ops listed = [] → Q σ) ∧
    ∀ i ∈ Region.ready md ops listed, hOp P n M ops i (hAny P n M md ops Q fuel (listed.setIfInBounds i true)) σ

section
variable {B0 : Nat} {X : Xs} {I0 : Nat → Prop} {w0 : World} {n : Nat} {M : Tab} {P : Program} {ops : Array Oper} {md : Region.Mode}

theorem hOp_mono {i : Nat} {σ : Slots} {K K' : Slots → Prop} (h : ∀ σ, K σ → K' σ) (hh : hOp P n M ops i K σ) : hOp P n M ops i K' σ := by
  unfold hOp at *
  split
  · rename_i ho; simp only [ho] at hh; exact h _ hh
  · rename_i o ho; simp only [ho] at hh; obtain ⟨d, h1, h2⟩ := hh; exact ⟨d, h1, h _ h2⟩

theorem wpOp_of_hOp {i : Nat} {σ : Slots} {a : Act} {w : World} {K : Slots → Prop} {K' : Act → World → Prop} {Q' : Exit → Act → World → Prop} (hs : St B0 X I0 w0 n σ M a w) (hk : ∀ σ a w, St B0 X I0 w0 n σ M a w → K σ → K' a w) (hh : hOp P n M ops i K σ) : wpOp P ops Q' i K' a w := by
  obtain ⟨Im, β, h⟩ := hs
  unfold hOp at hh
  unfold wpOp
  split
  · rename_i ho; simp only [ho] at hh; exact hk _ _ _ ⟨Im, β, h⟩ hh
  · rename_i o ho
    simp only [ho] at hh
    obtain ⟨d, ⟨hlt, hy⟩, hK⟩ := hh
    have hputs : ∀ {Im' β' v w'}, StG B0 X I0 w0 n Im' β' σ M a w' → Rv w' Im' β' M d v → St B0 X I0 w0 n (putA σ o.dst d) M (a.put o.dst v) w' := by
      intro Im' β' v w' h1 h2
      cases hd : o.dst with
      | none => exact ⟨Im', β', by simpa [putA, Act.put] using h1⟩
      | some t => exact ⟨Im', β', h1.put (hlt t hd) h2⟩
    have hwant : ∀ b, wantA ops σ o = some b → Region.wanted o (yielded ops a.tmps) = b := by
      intro b hb
      unfold wantA at hb
      unfold Region.wanted
      split at hb
      · rename_i hg; simp only [hg]; simpa using hb
      · rename_i j want hg
        simp only [hg]
        split at hb
        · rename_i dj hdj
          obtain ⟨y1, y2⟩ := yielded_of h hdj
          split at hb
          · rename_i bb hbb; rw [y1 bb hbb]; simp at hb; simpa using hb
          · rename_i hbb; rw [y2 hbb]; simp at hb; simpa using hb
          · cases hb
        · rename_i hdj; simp [yielded, hdj] at hb ⊢; simpa using hb
    rcases hy with ⟨hw, hq⟩ | ⟨hw, rfl⟩
    · rw [hwant true hw]
      simp only [if_true]
      exact .inl (hv_sound h hq K' Q' fun v w' Im' β' h1 h2 => hk _ _ _ (hputs h1 h2) hK)
    · rw [hwant false hw]
      simp only [Bool.false_eq_true, if_false]
      exact hk _ _ _ (hputs h (by simp [Rv, Rc])) hK

theorem wpAny_of_hAny {Q : Slots → Prop} {Q' : Exit → Act → World → Prop} (hQ : ∀ σ a w, St B0 X I0 w0 n σ M a w → Q σ → Q' .normal a w) : ∀ (fuel : Nat) (listed : Array Bool) (σ : Slots) (a : Act) (w : World), St B0 X I0 w0 n σ M a w →
    hAny P n M md ops Q fuel listed σ → wpAny P md ops Q' fuel listed a w
  | 0, _, _, _, _, hs, h => ⟨h.1, hQ _ _ _ hs h.2⟩
  | fuel + 1, _, _, _, _, hs, h => ⟨fun h0 => hQ _ _ _ hs (h.1 h0), fun i hi => wpOp_of_hOp hs (fun σ' a' w' hs' => wpAny_of_hAny hQ fuel _ σ' a' w' hs') (h.2 i hi)⟩

theorem putA_comm (σ : Slots) {x y : Option Tmp} (d e : D) (h : ∀ t, x = some t → y ≠ some t) : putA (putA σ x d) y e = putA (putA σ y e) x d := by
  cases x with
  | none => rfl
  | some s =>
    cases y with
    | none => rfl
    | some t =>
      have hne : s ≠ t := fun he => h s rfl (he ▸ rfl)
      funext j
      simp only [putA, upd]
      by_cases e1 : j = t <;> by_cases e2 : j = s <;> simp_all

theorem ev_putA {σ : Slots} {dst : Option Tmp} {d : D} {x : Operand} (h : ∀ t, dst = some t → x ≠ .tmp t) : ev (putA σ dst d) x = ev σ x := by
  cases dst with
  | none => rfl
  | some t =>
    cases x with
    | tmp s => simp only [putA, ev]; rw [upd_ne _ _ (fun e => h t rfl (by rw [e]))]
    | _ => rfl

theorem wantA_put {o : Oper} {σ : Slots} {dst : Option Tmp} {d : D} (h : ∀ t, dst = some t → t ∉ o.looksAt ops) : wantA ops (putA σ dst d) o = wantA ops σ o := by
  cases dst with
  | none => rfl
  | some t =>
    unfold wantA
    cases hg : o.guard with
    | none => rfl
    | some g =>
      obtain ⟨j, want⟩ := g
      simp only
      cases hd : (ops[j]?).bind (·.dst) with
      | none => rfl
      | some dj =>
        have hne : dj ≠ t := fun e => h t rfl (by simp [Oper.looksAt, hg, hd, e])
        simp only [putA, upd_ne _ _ hne]

theorem hv_put {o : Oper} {σ : Slots} {dst : Option Tmp} {d : D} {K : D → Prop} (h : ∀ t, dst = some t → t ∉ o.looksAt ops) : hv P M (ev (putA σ dst d)) K o.op ↔ hv P M (ev σ) K o.op := by
  have key : ∀ x ∈ o.op.operands, ev (putA σ dst d) x = ev σ x := fun x hx => ev_putA fun t ht he => h t ht (by
    simp only [Oper.looksAt, List.mem_append, List.mem_filterMap]
    exact .inl ⟨x, Array.mem_toList_iff.2 hx, by simp [he]⟩)
  exact ⟨hv_congr _ key, hv_congr _ fun x hx => (key x hx).symm⟩

theorem YA_put {o : Oper} {σ : Slots} {dst : Option Tmp} {d e : D} (h : ∀ t, dst = some t → t ∉ o.looksAt ops) : YA P n M ops o e (putA σ dst d) ↔ YA P n M ops o e σ := by
  unfold YA
  rw [wantA_put h, hv_put h]

theorem hOp_put {j : Nat} {oi oj : Oper} {d : D} (hj : ops[j]? = some oj) (hap : oi.apart ops oj = true) {K : Slots → Prop} {σ : Slots}
    (hy : YA P n M ops oi d σ) (h : hOp P n M ops j K (putA σ oi.dst d)) : hOp P n M ops j (fun σ' => YA P n M ops oi d σ' ∧ K (putA σ' oi.dst d)) σ := by
  obtain ⟨h1, h2, h3⟩ := Oper.apart_spec hap
  unfold hOp at *
  simp only [hj] at *
  obtain ⟨e, g1, g2⟩ := h
  exact ⟨e, (YA_put h1).1 g1, (YA_put h3).2 hy, by rw [← putA_comm σ d e h2]; exact g2⟩

theorem hAny_first {Q : Slots → Prop} {i : Nat} {oi : Oper} {d : D} (hi : ops[i]? = some oi) :
    ∀ (fuel : Nat) (listed : Array Bool) (σ : Slots),
      (∀ j oj, ops[j]? = some oj → j ≠ i → listed.getD j true = false → (∀ e ∈ oj.after, Region.binds md e = true → e.on ≠ i) → oi.apart ops oj = true) →
      i ∈ Region.ready md ops listed → YA P n M ops oi d σ →
      hAny P n M md ops Q fuel (listed.setIfInBounds i true) (putA σ oi.dst d) → hAny P n M md ops Q (fuel + 1) listed σ := by
  have now : ∀ {σ : Slots} {K : Slots → Prop}, YA P n M ops oi d σ → K (putA σ oi.dst d) → hOp P n M ops i K σ := by
    intro σ K hy hk
    unfold hOp
    simp only [hi]
    exact ⟨d, hy, hk⟩
  intro fuel
  induction fuel with
  | zero =>
    intro listed σ _ hr hy H
    refine ⟨fun h => (by rw [h] at hr; cases hr), fun j hj => ?_⟩
    by_cases hji : j = i
    · subst hji; exact now hy H
    · have := ready_mono hj hji
      rw [H.1] at this
      cases this
  | succ fuel ih =>
    intro listed σ hfree hr hy H
    refine ⟨fun h => (by rw [h] at hr; cases hr), fun j hj => ?_⟩
    by_cases hji : j = i
    · subst hji; exact now hy H
    · have h1 := H.2 j (ready_mono hj hji)
      obtain ⟨hjun, oj, hoj, hall⟩ := mem_ready.1 hj
      have hnot : ∀ e ∈ oj.after, Region.binds md e = true → e.on ≠ i := fun e he hb heq => by
        have h1 := hall e he hb
        have h0 := (mem_ready.1 hr).1
        rw [heq] at h1
        rcases Nat.lt_or_ge i listed.size with h' | h'
        · simp [h'] at h0 h1; rw [h0] at h1; cases h1
        · simp [Array.getElem?_eq_none h'] at h1
      have h2 := hOp_put hoj (hfree j oj hoj hji hjun hnot) hy h1
      have hfree' : ∀ k ok, ops[k]? = some ok → k ≠ i → (listed.setIfInBounds j true).getD k true = false →
          (∀ e ∈ ok.after, Region.binds md e = true → e.on ≠ i) → oi.apart ops ok = true := fun k ok hk hki hun hno => by
        refine hfree k ok hk hki ?_ hno
        by_cases hjk : j = k
        · subst hjk; exact hjun
        · rw [getD_set_ne true hjk] at hun; exact hun
      refine hOp_mono (fun σ' h3 => ih (listed.setIfInBounds j true) σ' hfree' (ready_mono hr (Ne.symm hji)) h3.1 ?_) h2
      rw [Array.setIfInBounds_comm _ _ hji]
      exact h3.2

def hOps (P : Program) (n : Nat) (M : Tab) (ops : Array Oper) : List Oper → Slots → (Slots → Prop) → Prop
  | [], σ, K => K σ
  | o :: rest, σ, K => guardQ ops σ o.guard ((∀ t, o.dst = some t → t < n) ∧ hv P M (ev σ) (fun d => hOps P n M ops rest (putA σ o.dst d) K) o.op) (skipQ n o.dst σ fun σ' => hOps P n M ops rest σ' K)

theorem YA_of_hOps {o : Oper} {rest : List Oper} {σ : Slots} {K : Slots → Prop} (h : hOps P n M ops (o :: rest) σ K) : ∃ d, YA P n M ops o d σ ∧ hOps P n M ops rest (putA σ o.dst d) K := by
  have hskip : ∀ {K' : Slots → Prop}, skipQ n o.dst σ K' → (∀ t, o.dst = some t → t < n) ∧ K' (putA σ o.dst .nov) := by
    intro K' hs
    unfold skipQ at hs
    cases hd : o.dst with
    | none => rw [hd] at hs; exact ⟨by simp, hs⟩
    | some t => rw [hd] at hs; exact ⟨by simpa using hs.1, hs.2⟩
  simp only [hOps, guardQ] at h
  unfold YA wantA
  cases hg : o.guard with
  | none =>
    simp only [hg] at h
    obtain ⟨h1, h2⟩ := h
    obtain ⟨d, h3, h4⟩ := hv_ex h2
    exact ⟨d, ⟨h1, .inl ⟨rfl, h3⟩⟩, h4⟩
  | some g =>
    obtain ⟨j, want⟩ := g
    simp only [hg] at h
    cases hd : (ops[j]?).bind (·.dst) with
    | none =>
      simp only [hd] at h
      obtain ⟨h1, h2⟩ := hskip h
      exact ⟨.nov, ⟨h1, .inr (by simp [hd])⟩, h2⟩
    | some dj =>
      simp only [hd, grdQ] at h
      have yes : ((∀ t, o.dst = some t → t < n) ∧ hv P M (ev σ) (fun d => hOps P n M ops rest (putA σ o.dst d) K) o.op) → ∀ b, σ dj = .bool b → b = want → ∃ d, ((∀ t, o.dst = some t → t < n) ∧ (((match σ dj with | .bool b => some (b == want) | .nov => some false | _ => none) = some true ∧ hv P M (ev σ) (· = d) o.op) ∨ ((match σ dj with | .bool b => some (b == want) | .nov => some false | _ => none) = some false ∧ d = .nov))) ∧ hOps P n M ops rest (putA σ o.dst d) K := by
        rintro ⟨h1, h2⟩ b hb rfl
        obtain ⟨d, h3, h4⟩ := hv_ex h2
        exact ⟨d, ⟨h1, .inl ⟨by simp [hb], h3⟩⟩, h4⟩
      cases hs : σ dj with
      | bool b =>
        simp only [hs] at h
        cases b <;> cases want <;> simp only at h
        · obtain ⟨d, h1, h2⟩ := yes (h.1 (by simp)) false hs rfl
          exact ⟨d, by simpa [hd, hs] using h1, h2⟩
        · obtain ⟨h1, h2⟩ := hskip (h.2 (by simp))
          exact ⟨.nov, ⟨h1, .inr (by simp [hd, hs])⟩, h2⟩
        · obtain ⟨h1, h2⟩ := hskip (h.2 (by simp))
          exact ⟨.nov, ⟨h1, .inr (by simp [hd, hs])⟩, h2⟩
        · obtain ⟨d, h1, h2⟩ := yes (h.1 (by simp)) true hs rfl
          exact ⟨d, by simpa [hd, hs] using h1, h2⟩
      | nov =>
        simp only [hs] at h
        obtain ⟨h1, h2⟩ := hskip h
        exact ⟨.nov, ⟨h1, .inr (by simp [hd, hs])⟩, h2⟩
      | _ => simp only [hs] at h

theorem hAny_lex {Q : Slots → Prop} : ∀ (l : List Oper) (k : Nat) (listed : Array Bool) (σ : Slots), (∀ j, l[j]? = ops[k + j]?) →
    Region.lexFrom md ops l.length k listed = true → hOps P n M ops l σ Q → hAny P n M md ops Q l.length listed σ
  | [], _, _, _, _, hB, h => ⟨by simpa [Region.lexFrom] using hB, h⟩
  | o :: l, k, listed, σ, hl, hB, h => by
    have h0 : ops[k]? = some o := by simpa using (hl 0).symm
    simp only [List.length_cons, Region.lexFrom, Bool.and_eq_true] at hB
    obtain ⟨⟨hr, hf⟩, hB'⟩ := hB
    obtain ⟨d, hy, hK⟩ := YA_of_hOps h
    exact hAny_first h0 l.length listed σ (Region.free_spec h0 hf) (by simpa using hr) hy
      (hAny_lex l (k + 1) _ _ (fun j => by have := hl (j + 1); simpa [Nat.add_assoc, Nat.add_comm 1 j] using this) hB' hK)

theorem t_draw {id : Nat} {l : List Oper} {Q : Ex → Slots → Tab → Prop} {σ : Slots} (hm : P.follows .mixedOrders = true) (hB : Region.lexB .any l.toArray = true)
    (h : ∀ K : Slots → Prop, (∀ σ, Q .normal σ M → K σ) → hOps P n M l.toArray l σ K) : Tr P n (.region id l.toArray true) Q σ M := by
  intro B0 X I0 w0 a w hs
  simp only [Region.lexB, Bool.and_eq_true] at hB
  obtain ⟨Im, β, hg⟩ := hs
  refine wp_region_any hm (wpAny_of_hAny (Q := fun σ => Q .normal σ M) (fun σ' a' w' h1 h2 => ⟨.normal, σ', M, h1, h2, rfl⟩) _ _ σ a _ ⟨Im, β, hg.drew⟩ ?_)
  have := hAny_lex (P := P) (n := n) (M := M) (md := .any) l 0 (Array.replicate l.toArray.size false) σ (by simp) (by simpa using hB.2) (h _ (fun _ h => h))
  simpa using this
end
end Go.Proofs.YtmiclkgkfkcnoaaGreat

/- What a reading of an argument tells the evaluator: the argument stands for a closed abstract value of its type's shape. -/
namespace Go.Proofs.YtmiclkgkfkcnoaaGreat
open Go.RowKit Go.ChangeShapes Go.WideShapes

inductive CT where
  | int (k : IntKind)
  | bool
  | str
  | slice (es : List CT)

mutual
def IsC : CT → D → Prop
  | .int k, d => ∃ n, d = .int k n ∧ (Lit.int k n).wf = true
  | .bool, d => ∃ b, d = .bool b
  | .str, d => ∃ s : List UInt8, d = .str s ∧ s.length ≤ maxLen
  | .slice es, d => ∃ rows : List (List D), d = .sl rows ∧ rows.length ≤ maxLen ∧ ∀ r ∈ rows, IsL es r
def IsL : List CT → List D → Prop
  | [], ds => ds = []
  | c :: cs, ds => ∃ d r, ds = d :: r ∧ IsC c d ∧ IsL cs r
end

def ctFields (P : Program) (r : TypeId → Option (List CT)) : Nat → List Field → Option (List CT)
  | _, [] => some []
  | off, f :: fs =>
    if f.offset = off then
      match r f.type with
      | some c => if c.length = P.cellsOf f.type then (ctFields P r (off + c.length) fs).map (c ++ ·) else none
      | none => none
    else none
def ctOf (P : Program) : Nat → TypeId → Option (List CT)
  | 0, _ => none
  | n + 1, t =>
    match P.underlying t with
    | some (.int k) => some [.int k]
    | some .bool => some [.bool]
    | some .string => some [.str]
    | some (.slice e) =>
      match ctOf P n e with
      | some es => if es.length = P.cellsOf e ∧ es.length ≠ 0 then some [.slice es] else none
      | none => none
    | some (.struct fs) =>
      match ctFields P (ctOf P n) 0 fs.toList with
      | some c => if c.length = P.cellsOf t then some c else none
      | none => none
    | _ => none

theorem IsL_len : ∀ {cs : List CT} {ds : List D}, IsL cs ds → ds.length = cs.length
  | [], _, h => by simp only [IsL] at h; simp [h]
  | c :: cs, _, h => by
    simp only [IsL] at h
    obtain ⟨d, r, rfl, _, h⟩ := h
    simp [IsL_len h]
theorem IsL_append : ∀ {a b : List CT} {x y : List D}, IsL a x → IsL b y → IsL (a ++ b) (x ++ y)
  | [], b, x, y, h, h' => by simp only [IsL] at h; subst h; simpa using h'
  | c :: a, b, x, y, h, h' => by
    simp only [IsL] at h
    obtain ⟨d, r, rfl, h1, h2⟩ := h
    simp only [List.cons_append, IsL]
    exact ⟨d, r ++ y, rfl, h1, IsL_append h2 h'⟩
section
variable {H : Type} {enc : TypeId × Value → H} {P : Program} {w : World} {base : Nat} {sp : Nat → Bool} {held : Bool} {Im : Nat → Prop}
theorem RcRow_of : ∀ {ds : List D} {cs : List Value} {b o : Nat}, RcL w Im ds cs → (∀ c ∈ cs, c.oneCell' = true) → (∀ j, j < cs.length → w.cell? ⟨b, o + j, none⟩ = cs[j]?) → RcRow w Im ds b o
  | [], _, _, _, _, _, _ => by simp [RcRow]
  | d :: ds, cs, b, o, h, h1, hc => by
    simp only [RcL] at h
    obtain ⟨c, r, rfl, hd, hr⟩ := h
    simp only [RcRow]
    refine ⟨⟨c, by simpa using hc 0 (by simp), h1 c (by simp), hd⟩, RcRow_of hr (fun c hc => h1 c (by simp [hc])) ?_⟩
    intro j hj
    have := hc (j + 1) (by simpa using hj)
    simpa [Nat.add_assoc, Nat.add_comm 1 j] using this
theorem RcRows_of {s : Nat} {b : Nat} : ∀ {rows : List (List D)} {o : Nat}, (∀ i r, rows[i]? = some r → r.length = s ∧ RcRow w Im r b (o + i * s)) → RcRows w Im rows s b o
  | [], _, _ => by simp [RcRows]
  | r :: rs, o, h => by
    simp only [RcRows]
    have h0 := h 0 r rfl
    refine ⟨h0.1, by simpa using h0.2, RcRows_of fun i r' hr => ?_⟩
    have := h (i + 1) r' (by simpa using hr)
    rw [Nat.add_mul, Nat.one_mul, Nat.add_comm (i * s), ← Nat.add_assoc] at this
    exact this

def Good (w : World) (cts : List CT) (cs : List Value) : Prop := cs.length = cts.length ∧ (∀ c ∈ cs, c.oneCell' = true) ∧ ∃ ds, IsL cts ds ∧ RcL w (fun b => b < w.heap.size) ds cs

theorem good_append {a b : List CT} {x y : List Value} (h : Good w a x) (h' : Good w b y) : Good w (a ++ b) (x ++ y) := by
  obtain ⟨h1, h2, d, h3, h4⟩ := h
  obtain ⟨g1, g2, e, g3, g4⟩ := h'
  refine ⟨by simp [h1, g1], ?_, d ++ e, IsL_append h3 g3, RcL_append _ _ _ _ h4 g4⟩
  intro c hc
  rcases List.mem_append.1 hc with hc | hc
  · exact h2 c hc
  · exact g2 c hc
theorem good_one {c : CT} {v : Value} {d : D} (h1 : v.oneCell' = true) (h : IsC c d) (h' : Rc w (fun b => b < w.heap.size) d v) : Good w [c] [v] := by
  refine ⟨rfl, by simpa using h1, [d], ?_, ?_⟩
  · simp only [IsL]; exact ⟨d, [], rfl, h, rfl⟩
  · simp only [RcL]; exact ⟨v, [], rfl, h', rfl⟩

theorem fields_open {r : TypeId → Option (List CT)} {cs : List Value} {n : Nat} (hr : ∀ t c, r t = some c → ∀ x cs, DataW.trod enc P w base sp held n t cs = some x → Good w c cs) : ∀ (fs : List Field) (off : Nat) (cts : List CT),
    ctFields P r off fs = some cts → cs.length = off + cts.length → (∀ f ∈ fs, ∃ x, DataW.trod enc P w base sp held n f.type ((cs.drop f.offset).take (P.cellsOf f.type)) = some x) → Good w cts (cs.drop off)
  | [], off, cts, h, hl, _ => by
    simp only [ctFields, Option.some.injEq] at h
    subst h
    have : cs.drop off = [] := List.drop_eq_nil_of_le (by simp at hl; omega)
    rw [this]
    exact ⟨rfl, by simp, [], by simp [IsL], by simp [RcL]⟩
  | f :: fs, off, cts, h, hl, hf => by
    simp only [ctFields] at h
    split at h
    · rename_i ho
      split at h
      · rename_i c hc
        split at h
        · rename_i hcl
          simp only [Option.map_eq_some_iff] at h
          obtain ⟨c', h', rfl⟩ := h
          obtain ⟨x, hx⟩ := hf f (by simp)
          have g1 := hr _ _ hc _ _ hx
          have g2 := fields_open hr fs _ _ h' (by simp at hl; omega) (fun f hf' => hf f (by simp [hf']))
          rw [ho, ← hcl] at g1
          have : cs.drop off = (cs.drop off).take c.length ++ cs.drop (off + c.length) := by
            rw [← List.drop_drop, List.take_append_drop]
          rw [this]
          exact good_append g1 g2
        · cases h
      · cases h
    · cases h

theorem cells_get {a : Addr} {k : Nat} {cs : List Value} (h : w.cells? base a k = some cs) : cs.length = k ∧ ∀ j, j < k → w.cell? (a.add j) = cs[j]? := by
  unfold World.cells? at h
  split at h
  · exact ⟨by simpa using mapM_some_length h, fun j hj => mapM_some_get h j j (by simp [hj])⟩
  · cases h

theorem ct_open : ∀ (fuel : Nat) (t : TypeId) (cts : List CT), ctOf P fuel t = some cts → ∀ (m : Nat) (cs : List Value) (x : DataW H × List MemPlace), DataW.trod enc P w base sp held m t cs = some x → Good w cts cs
  | 0, _, _, h, _, _, _, _ => by simp [ctOf] at h
  | n + 1, t, cts, h, m, cs, x, hx => by
    simp only [ctOf] at h
    split at h
    · rename_i k hu
      cases h
      obtain ⟨z, rfl, _, hw⟩ := DataW.trod_int hu hx
      exact good_one rfl (d := .int k z) (by simp only [IsC]; exact ⟨z, rfl, hw⟩) (by simp [Rc])
    · rename_i hu
      cases h
      obtain ⟨z, rfl, _⟩ := DataW.trod_bool hu hx
      exact good_one rfl (d := .bool z) (by simp only [IsC]; exact ⟨z, rfl⟩) (by simp [Rc])
    · rename_i hu
      cases h
      obtain ⟨s, rfl, _, hs⟩ := DataW.trod_string hu hx
      exact good_one rfl (d := .str s.data.toList) (by simp only [IsC]; exact ⟨_, rfl, by simpa using hs⟩) (by simp [Rc])
    · rename_i e hu
      split at h
      · rename_i es he
        split at h
        · rename_i hes
          cases h
          rcases DataW.trod_slice hu hx with ⟨rfl, _⟩ | ⟨a, len, cap, elems, rest, k, rfl, rfl, _, hb, hlc, hcm, hel, hget, _, _⟩
          · exact good_one rfl (d := .sl []) (by simp only [IsC]; exact ⟨[], rfl, by simp, by simp⟩) (by simp only [Rc]; exact ⟨none, 0, rfl, by simp, by simp⟩)
          · have hrow : ∀ i, i < len → ∃ cs', w.cells? base (a.add (i * P.cellsOf e)) (P.cellsOf e) = some cs' ∧ Good w es cs' := by
              intro i hi
              have := hget i hi
              rw [List.getElem?_eq_getElem (by omega)] at this
              simp only [Option.bind_eq_some_iff] at this
              obtain ⟨cs', h1, h2⟩ := this
              exact ⟨cs', h1, ct_open n e es he k cs' _ h2⟩
            have hds : ∀ i, ∃ ds : List D, i < len → ∃ cs', w.cells? base (a.add (i * P.cellsOf e)) (P.cellsOf e) = some cs' ∧ (∀ c ∈ cs', c.oneCell' = true) ∧ IsL es ds ∧ RcL w (fun b => b < w.heap.size) ds cs' := by
              intro i
              by_cases hi : i < len
              · obtain ⟨cs', h1, h2, h3, ds, h4, h5⟩ := hrow i hi
                exact ⟨ds, fun _ => ⟨cs', h1, h3, h4, h5⟩⟩
              · exact ⟨[], fun hh => absurd hh hi⟩
            have hfun : ∃ f : Nat → List D, ∀ i, i < len → ∃ cs', w.cells? base (a.add (i * P.cellsOf e)) (P.cellsOf e) = some cs' ∧ (∀ c ∈ cs', c.oneCell' = true) ∧ IsL es (f i) ∧ RcL w (fun b => b < w.heap.size) (f i) cs' :=
              ⟨fun i => Classical.choose (hds i), fun i => Classical.choose_spec (hds i)⟩
            obtain ⟨f, hf⟩ := hfun
            have hlen : ((List.range len).map f).length = len := by simp
            refine good_one rfl (d := .sl ((List.range len).map f)) ?_ ?_
            · simp only [IsC]
              refine ⟨_, rfl, by rw [hlen]; omega, ?_⟩
              intro r hr
              obtain ⟨i, hi, rfl⟩ := List.mem_map.1 hr
              obtain ⟨_, _, _, h3, _⟩ := hf i (by simpa using hi)
              exact h3
            · simp only [Rc, hlen]
              refine ⟨some a, cap, rfl, hlc, ?_⟩
              by_cases h0 : len = 0
              · exact .inl (by simp [h0])
              · right
                obtain ⟨b, o, spt⟩ := a
                obtain ⟨cs0, z1, _⟩ := hf 0 (by omega)
                obtain ⟨z2, z3⟩ := cells_get z1
                have z4 := z3 0 (by omega)
                rw [List.getElem?_eq_getElem (by omega)] at z4
                simp only [Nat.zero_mul, Addr.add, if_true] at z4
                have hspot : spt = none := by simpa using World.cell?_spot z4
                subst hspot
                have hblk : b < w.heap.size := World.block_lt_of_cell? w _ z4
                have cell0 : ∀ i, i < len → ∀ cs', w.cells? base ((⟨b, o, none⟩ : Addr).add (i * P.cellsOf e)) (P.cellsOf e) = some cs' → cs'.length = es.length ∧ ∀ j, j < es.length → w.cell? (⟨b, o + i * es.length + j, none⟩ : Addr) = cs'[j]? := by
                  intro i hi cs' hcs
                  obtain ⟨g1, g2⟩ := cells_get hcs
                  rw [hes.1]
                  exact ⟨g1, fun j hj => by
                    have := g2 j hj
                    have e1 : ((⟨b, o, none⟩ : Addr).add (i * P.cellsOf e)).add j = ⟨b, o + i * P.cellsOf e + j, none⟩ := by
                      simp only [Addr.add]; split <;> split <;> simp_all
                    rw [← e1]; exact this⟩
                refine ⟨b, o, es.length, rfl, hblk, RcRows_of ?_⟩
                intro i r hr
                simp only [List.getElem?_map, Option.map_eq_some_iff] at hr
                obtain ⟨i', hi', rfl⟩ := hr
                have hii : i' = i ∧ i < len := by
                  rcases Nat.lt_or_ge i len with hl | hl
                  · rw [List.getElem?_range hl] at hi'; exact ⟨(Option.some.inj hi').symm, hl⟩
                  · rw [List.getElem?_eq_none (by simpa using hl)] at hi'; cases hi'
                obtain ⟨rfl, hl⟩ := hii
                obtain ⟨cs', y1, y2, y3, y4⟩ := hf i' hl
                obtain ⟨y5, y6⟩ := cell0 i' hl cs' y1
                exact ⟨IsL_len y3, RcRow_of y4 y2 (by rw [y5]; exact y6)⟩
        · cases h
      · cases h
    · rename_i fs hu
      split at h
      · rename_i c hc
        split at h
        · rename_i hcl
          cases h
          obtain ⟨xs, k, rfl, _, hl, hxl, hget⟩ := DataW.trod_struct hu hx
          have := fields_open (cs := cs) (fun t c hc x cs hh => ct_open n t c hc k cs x hh) fs.toList 0 cts hc (by omega) (by
            intro f hf
            obtain ⟨i, hi, hfi⟩ := List.getElem_of_mem hf
            have h1 : fs[i]? = some f := by rw [← Array.getElem?_toList, List.getElem?_eq_getElem hi, hfi]
            have h2 := hget i f h1
            have : i < xs.length := by rw [hxl]; simpa using hi
            rw [List.getElem?_eq_getElem this] at h2
            exact ⟨_, h2⟩)
          simpa using this
        · cases h
      · cases h
    · cases h

theorem arg_cell {t : TypeId} {v : Value} {d : DataW H} {ps : List MemPlace} {c : CT} (n : Nat) (hct : ctOf P n t = some [c]) (hv : v.cells = #[v]) (h : DataW.Trod enc P w base sp held t v d ps) : ∃ d, IsC c d ∧ Rc w (fun b => b < w.heap.size) d v := by
  obtain ⟨m, hm⟩ := h
  rw [hv] at hm
  obtain ⟨_, _, ds, h1, h2⟩ := ct_open n t _ hct m _ _ hm
  simp only [IsL] at h1
  obtain ⟨d, r, rfl, h3, rfl⟩ := h1
  simp only [RcL] at h2
  obtain ⟨_, _, he, h4, rfl⟩ := h2
  simp only [List.cons.injEq, and_true] at he
  subst he
  exact ⟨d, h3, h4⟩
end
end Go.Proofs.YtmiclkgkfkcnoaaGreat

/- The steps of a drawn region as they are taken in a proof. -/
namespace Go.Proofs.YtmiclkgkfkcnoaaGreat
open Go.RowKit

section
variable {P : Program} {n : Nat} {σ : Slots} {M : Tab} {ops : Array Oper} {K : Slots → Prop}
theorem h_nil (h : K σ) : hOps P n M ops [] σ K := h
theorem h_plain {dst : Nat} {op : Op} {type : TypeId} {pos : String} {after : Array Edge} {rest : List Oper} (hd : dst < n)
    (h : ∀ K' : D → Prop, (∀ d, hOps P n M ops rest (upd σ dst d) K → K' d) → hv P M (ev σ) K' op) : hOps P n M ops (⟨some dst, op, type, pos, after, none⟩ :: rest) σ K := by
  simp only [hOps, guardQ]
  exact ⟨by intro t ht; cases ht; exact hd, h _ (fun _ h => h)⟩
theorem h_none {op : Op} {type : TypeId} {pos : String} {after : Array Edge} {rest : List Oper}
    (h : ∀ K' : D → Prop, (∀ d, hOps P n M ops rest σ K → K' d) → hv P M (ev σ) K' op) : hOps P n M ops (⟨none, op, type, pos, after, none⟩ :: rest) σ K := by
  simp only [hOps, guardQ]
  exact ⟨by simp, h _ (fun _ h => h)⟩
theorem h_guard {dst : Option Tmp} {op : Op} {type : TypeId} {pos : String} {after : Array Edge} {j : Nat} {want : Bool} {rest : List Oper} (d : Nat) (hd : (ops[j]?).bind (·.dst) = some d)
    (h : ∀ A B : Prop, (hOps P n M ops (⟨dst, op, type, pos, after, none⟩ :: rest) σ K → A) → (skipQ n dst σ (fun σ' => hOps P n M ops rest σ' K) → B) → grdQ (σ d) want A B) :
    hOps P n M ops (⟨dst, op, type, pos, after, some (j, want)⟩ :: rest) σ K := by
  have := h _ _ id id
  simp only [hOps, guardQ, hd]
  simpa only [hOps, guardQ] using this
end

end Go.Proofs.YtmiclkgkfkcnoaaGreat

/- Regions that draw their order and end in operations with an effect: the head in whatever order, the tail in the text's. -/
namespace Go.Proofs.YtmiclkgkfkcnoaaGreat
open Go.RowKit

def chainQ (md : Region.Mode) (ops : Array Oper) (n q : Nat) : Bool :=
  (List.range ops.size).all fun t => decide (t ≤ n) || decide (t = q) || Region.waitsFor md ops t (if t - 1 = q then t - 2 else t - 1)

structure HeadQ (md : Region.Mode) (ops : Array Oper) (n q : Nat) (listed : Array Bool) : Prop where
  size : listed.size = ops.size
  closed : ∀ j oj, ops[j]? = some oj → listed.getD j false = true → ∀ e ∈ oj.after, Region.binds md e = true → listed.getD e.on false = true
  tail : ∀ t, n ≤ t → t < ops.size → t ≠ q → listed.getD t true = false
  pulled : q < ops.size → listed.getD q false = true

section
variable {ops : Array Oper} {md : Region.Mode}

theorem HeadQ.set {n q i : Nat} {listed : Array Bool} (inv : HeadQ md ops n q listed) (hi : i ∈ Region.ready md ops listed) (hin : i < n) : HeadQ md ops n q (listed.setIfInBounds i true) := by
  obtain ⟨_, oi, hoi, hall⟩ := mem_ready.1 hi
  refine ⟨by simp [inv.size], fun j oj hj hl e he hb => ?_, fun t ht ht' hq => by rw [getD_set_ne true (by omega)]; exact inv.tail t ht ht' hq, fun hq => getD_set_true (inv.pulled hq)⟩
  by_cases hij : i = j
  · subst hij
    have : oj = oi := Option.some.inj (hj.symm.trans hoi)
    subst this
    exact getD_set_true (hall e he hb)
  · rw [getD_set_ne false hij] at hl
    exact getD_set_true (inv.closed j oj hj hl e he hb)

theorem tail_waitsQ {n q : Nat} {listed : Array Bool} (hs : Region.sinkB md ops n = true) (hc : chainQ md ops n q = true) (hq : q ≠ n) (hn : n < ops.size) (inv : HeadQ md ops n q listed) :
    ∀ (d i : Nat), n - i = d → i < n → listed.getD i true = false → ∀ t, n ≤ t → t ∉ Region.ready md ops listed := by
  intro d
  induction d using Nat.strongRecOn with
  | _ d ih =>
    intro i hd hi hun t ht hr
    obtain ⟨htun, ot, hot, hall⟩ := mem_ready.1 hr
    have htlt : t < ops.size := (Array.getElem?_eq_some_iff.1 hot).1
    by_cases htn : t = n
    · subst htn
      have h1 := List.all_eq_true.1 hs i (List.mem_range.2 hi)
      obtain ⟨j, hj, hj2⟩ := List.any_eq_true.1 h1
      simp only [Bool.and_eq_true, decide_eq_true_eq] at hj2
      obtain ⟨oj, hoj, e, he, hb, hon⟩ := Region.waitsFor_spec hj2.2
      have hjle : j ≤ t := by have := List.mem_range.1 hj; omega
      by_cases hjt : j = t
      · subst hjt
        have : oj = ot := Option.some.inj (hoj.symm.trans hot)
        subst this
        have h2 := hall e he hb
        rw [hon, getD_both hun] at h2
        cases h2
      · cases hl : listed.getD j false with
        | true =>
          have h2 := inv.closed j oj hoj hl e he hb
          rw [hon, getD_both hun] at h2
          cases h2
        | false =>
          have hjs : j < listed.size := by rw [inv.size]; omega
          exact ih (t - j) (by omega) j rfl (by omega) (getD_in hjs hl) t (Nat.le_refl _) hr
    · by_cases htq : t = q
      · subst htq
        have := inv.pulled htlt
        rw [getD_both htun] at this
        cases this
      · have h1 := List.all_eq_true.1 hc t (List.mem_range.2 htlt)
        simp only [Bool.or_eq_true, decide_eq_true_eq] at h1
        rcases h1 with (h1 | h1) | h1
        · omega
        · exact htq h1
        · obtain ⟨o', ho', e, he, hb, hon⟩ := Region.waitsFor_spec h1
          have : o' = ot := Option.some.inj (ho'.symm.trans hot)
          subst this
          have h2 := hall e he hb
          have hp : (if t - 1 = q then t - 2 else t - 1) ≠ q ∧ n ≤ (if t - 1 = q then t - 2 else t - 1) ∧ (if t - 1 = q then t - 2 else t - 1) < ops.size := by
            split
            · refine ⟨by omega, by omega, by omega⟩
            · refine ⟨by omega, by omega, by omega⟩
          rw [hon, getD_both (inv.tail _ hp.2.1 hp.2.2 hp.1)] at h2
          cases h2
end

def hAnyL (P : Program) (n : Nat) (M : Tab) (md : Region.Mode) (ops : Array Oper) (m : Nat) (L : Array Bool → Slots → Prop) : Nat → Array Bool → Slots → Prop
  | 0, listed, σ => L listed σ
  | f + 1, listed, σ =>
    Region.ready md ops listed ≠ [] ∧ ∀ i ∈ Region.ready md ops listed, i < m ∧ hOp P n M ops i (hAnyL P n M md ops m L f (listed.setIfInBounds i true)) σ

section
variable {B0 : Nat} {X : Xs} {I0 : Nat → Prop} {w0 : World} {n : Nat} {M : Tab} {P : Program} {ops : Array Oper} {md : Region.Mode}

theorem wpAny_of_headL {m g : Nat} {L : Array Bool → Slots → Prop} {Q' : Exit → Act → World → Prop} (hL : ∀ listed σ a w, St B0 X I0 w0 n σ M a w → L listed σ → wpAny P md ops Q' g listed a w) :
    ∀ (f : Nat) (listed : Array Bool) (σ : Slots) (a : Act) (w : World), St B0 X I0 w0 n σ M a w → hAnyL P n M md ops m L f listed σ → wpAny P md ops Q' (f + g) listed a w
  | 0, listed, σ, a, w, hs, h => by rw [Nat.zero_add]; exact hL _ _ _ _ hs h
  | f + 1, listed, σ, a, w, hs, h => by
    rw [show f + 1 + g = (f + g) + 1 by omega]
    exact ⟨fun h0 => absurd h0 h.1, fun i hi => wpOp_of_hOp hs (fun σ' a' w' hs' h' => wpAny_of_headL hL f _ σ' a' w' hs' h') (h.2 i hi).2⟩

theorem hAnyL_first {m q i : Nat} {oi : Oper} {d : D} {L : Array Bool → Slots → Prop} (hi : ops[i]? = some oi)
    (hs : Region.sinkB md ops m = true) (hc : chainQ md ops m q = true) (hq : q ≠ m) (hn : m < ops.size) (hin : i < m)
    (hdone : ∀ listed σ, L listed σ → ∀ j ∈ Region.ready md ops listed, m ≤ j) :
    ∀ (f : Nat) (listed : Array Bool) (σ : Slots), HeadQ md ops m q listed →
      (∀ j oj, ops[j]? = some oj → j ≠ i → listed.getD j true = false → (∀ e ∈ oj.after, Region.binds md e = true → e.on ≠ i) → oi.apart ops oj = true) →
      i ∈ Region.ready md ops listed → YA P n M ops oi d σ →
      hAnyL P n M md ops m L f (listed.setIfInBounds i true) (putA σ oi.dst d) → hAnyL P n M md ops m L (f + 1) listed σ := by
  have now : ∀ {σ : Slots} {K : Slots → Prop}, YA P n M ops oi d σ → K (putA σ oi.dst d) → hOp P n M ops i K σ := by
    intro σ K hy hk
    unfold hOp
    simp only [hi]
    exact ⟨d, hy, hk⟩
  intro f
  induction f with
  | zero =>
    intro listed σ inv _ hr hy H
    have hun := (mem_ready.1 hr).1
    refine ⟨fun h => (by rw [h] at hr; cases hr), fun j hj => ?_⟩
    have hjn : j < m := by
      rcases Nat.lt_or_ge j m with h | h
      · exact h
      · exact absurd hj (tail_waitsQ hs hc hq hn inv _ i rfl hin hun j h)
    refine ⟨hjn, ?_⟩
    by_cases hji : j = i
    · subst hji; exact now hy H
    · have := hdone _ _ H j (ready_mono hj hji)
      omega
  | succ f ih =>
    intro listed σ inv hfree hr hy H
    have hun := (mem_ready.1 hr).1
    refine ⟨fun h => (by rw [h] at hr; cases hr), fun j hj => ?_⟩
    have hjn : j < m := by
      rcases Nat.lt_or_ge j m with h | h
      · exact h
      · exact absurd hj (tail_waitsQ hs hc hq hn inv _ i rfl hin hun j h)
    refine ⟨hjn, ?_⟩
    by_cases hji : j = i
    · subst hji; exact now hy H
    · have h1 := (H.2 j (ready_mono hj hji)).2
      obtain ⟨hjun, oj, hoj, hall⟩ := mem_ready.1 hj
      have hnot : ∀ e ∈ oj.after, Region.binds md e = true → e.on ≠ i := fun e he hb heq => by
        have h1 := hall e he hb
        rw [heq, getD_both hun] at h1
        cases h1
      have h2 := hOp_put hoj (hfree j oj hoj hji hjun hnot) hy h1
      have hfree' : ∀ k ok, ops[k]? = some ok → k ≠ i → (listed.setIfInBounds j true).getD k true = false →
          (∀ e ∈ ok.after, Region.binds md e = true → e.on ≠ i) → oi.apart ops ok = true := fun k ok hk hki hun hno => by
        refine hfree k ok hk hki ?_ hno
        by_cases hjk : j = k
        · subst hjk; exact hjun
        · rw [getD_set_ne true hjk] at hun; exact hun
      refine hOp_mono (fun σ' h3 => ih (listed.setIfInBounds j true) σ' (inv.set hj hjn) hfree' (ready_mono hr (Ne.symm hji)) h3.1 ?_) h2
      rw [Array.setIfInBounds_comm _ _ hji]
      exact h3.2

def seqL (md : Region.Mode) (ops : Array Oper) : List Nat → Array Bool → Bool
  | [], listed => (Region.ready md ops listed).isEmpty
  | k :: r, listed => decide (Region.ready md ops listed = [k]) && seqL md ops r (listed.setIfInBounds k true)

theorem wpAny_of_seqL {Q' : Exit → Act → World → Prop} : ∀ (js : List Nat) (l : List Oper) (listed : Array Bool) (a : Act) (w : World), js.map (ops[·]?) = l.map some →
    seqL md ops js listed = true → wpList P ops Q' l a w → wpAny P md ops Q' js.length listed a w
  | [], l, _, _, _, hl, hB, h => by
    have : l = [] := by simpa using hl
    subst this
    exact ⟨by simpa [seqL] using hB, h⟩
  | k :: js, l, listed, a, w, hl, hB, h => by
    cases l with
    | nil => simp at hl
    | cons o l =>
      simp only [List.map_cons, List.cons.injEq] at hl
      simp only [seqL, Bool.and_eq_true, decide_eq_true_eq] at hB
      refine ⟨fun h1 => (by rw [hB.1] at h1; cases h1), fun i hi => ?_⟩
      rw [hB.1] at hi
      have hik : i = k := by simpa using hi
      subst hik
      have hw : wpOp P ops Q' i (wpList P ops Q' l) a w := by unfold wpOp; simp only [hl.1]; exact h
      exact wpOp_mono (fun a' w' h' => wpAny_of_seqL js l _ a' w' hl.2 hB.2 h') hw

def lexHeadQ (md : Region.Mode) (ops : Array Oper) (js : List Nat) : Nat → Nat → Array Bool → Bool
  | 0, _, listed => seqL md ops js listed && (Region.ready md ops listed).all fun j => decide (js.contains j)
  | f + 1, k, listed => (Region.ready md ops listed).contains k && Region.free md ops listed k && lexHeadQ md ops js f (k + 1) (listed.setIfInBounds k true)

theorem hAnyL_lex {m q : Nat} {js : List Nat} {Lq : Slots → Prop} (hs : Region.sinkB md ops m = true) (hc : chainQ md ops m q = true) (hq : q ≠ m) (hn : m < ops.size) (hjs : ∀ j ∈ js, m ≤ j) :
    ∀ (l : List Oper) (k : Nat) (listed : Array Bool) (σ : Slots), (∀ j, j < l.length → l[j]? = ops[k + j]?) → k + l.length = m → HeadQ md ops m q listed →
    lexHeadQ md ops js l.length k listed = true → hOps P n M ops l σ Lq →
    hAnyL P n M md ops m (fun listed' σ' => (seqL md ops js listed' = true ∧ ∀ j ∈ Region.ready md ops listed', m ≤ j) ∧ Lq σ') l.length listed σ
  | [], k, listed, σ, _, hk, _, hB, h => by
    simp only [List.length_nil, lexHeadQ, Bool.and_eq_true] at hB
    refine ⟨⟨hB.1, fun j hj => ?_⟩, h⟩
    have := List.all_eq_true.1 hB.2 j hj
    exact hjs j (by simpa using this)
  | o :: l, k, listed, σ, hl, hk, inv, hB, h => by
    have h0 : ops[k]? = some o := by simpa using (hl 0 (by simp)).symm
    simp only [List.length_cons, lexHeadQ, Bool.and_eq_true] at hB
    obtain ⟨⟨hr, hf⟩, hB'⟩ := hB
    have hkn : k < m := by simp only [List.length_cons] at hk; omega
    have hr' : k ∈ Region.ready md ops listed := by simpa using hr
    obtain ⟨d, hy, hK⟩ := YA_of_hOps h
    exact hAnyL_first h0 hs hc hq hn hkn (fun listed' σ' hL => hL.1.2) l.length listed σ inv (Region.free_spec h0 hf) hr' hy
      (hAnyL_lex hs hc hq hn hjs l (k + 1) _ _ (fun j hj => by have := hl (j + 1) (by simp; omega); simpa [Nat.add_assoc, Nat.add_comm 1 j] using this) (by simp only [List.length_cons] at hk; omega) (inv.set hr' hkn) hB' hK)

def pullL : List Oper → List Oper
  | e :: _ :: r => e :: r
  | l => l
def dropQ (pull : Bool) (m : Nat) (l : List Oper) : List Oper := match pull with | true => pullL (l.drop m) | false => l.drop m

def tailB (ops : Array Oper) (m : Nat) : Bool :=
  decide (m < ops.size) && Region.sinkB .any ops m && chainQ .any ops m ops.size && lexHeadQ .any ops (List.range' m (ops.size - m)) m 0 (Array.replicate ops.size false)
theorem range'_map (l : List Oper) : ∀ (k m : Nat), m + k = l.length → (List.range' m k).map (l.toArray[·]?) = (l.drop m).map some
  | 0, m, h => by simp [List.drop_eq_nil_of_le (by omega : l.length ≤ m)]
  | k + 1, m, h => by
    have hm : m < l.length := by omega
    rw [List.range'_succ, List.map_cons, List.drop_eq_getElem_cons hm, List.map_cons, range'_map l k (m + 1) (by omega)]
    simp [hm]

theorem t_drawTail {id : Nat} {l : List Oper} {Q : Ex → Slots → Tab → Prop} {σ : Slots} (m : Nat) (hm : P.follows .mixedOrders = true) (hB : tailB l.toArray m = true)
    (h : ∀ K : Slots → Tab → Prop, (∀ σ M, Q .normal σ M → K σ M) → hOps P n M l.toArray (l.take m) σ fun σ' => aOps P n l.toArray (dropQ false m l) σ' M K) : Tr P n (.region id l.toArray true) Q σ M := by
  intro B0 X I0 w0 a w hs
  simp only [tailB, Bool.and_eq_true, decide_eq_true_eq] at hB
  obtain ⟨⟨⟨hn, hsk⟩, hc⟩, hlex⟩ := hB
  have hn' : m < l.length := by simpa using hn
  have htl : (l.take m).length = m := by simp; omega
  have inv0 : HeadQ .any l.toArray m l.toArray.size (Array.replicate l.toArray.size false) :=
    ⟨by simp, fun j oj _ hl => (by rw [getD_replicate_false] at hl; cases hl), fun t _ ht _ => getD_in (by simpa using ht) (getD_replicate_false _ _), fun hq => absurd hq (Nat.lt_irrefl _)⟩
  have H := hAnyL_lex (P := P) (n := n) (M := M) (md := .any) (js := List.range' m (l.toArray.size - m)) hsk hc (by omega) hn (fun j hj => (List.mem_range'_1.1 hj).1) (l.take m) 0 _ σ (fun j hj => by
    have hj' : j < m := by rw [htl] at hj; exact hj
    simp [hj']) (by simpa using htl) inv0 (by rw [htl]; exact hlex) (h _ (fun _ _ h => h))
  obtain ⟨Im, β, hg⟩ := hs
  refine wp_region_any hm ?_
  have := wpAny_of_headL (B0 := B0) (X := X) (I0 := I0) (w0 := w0) (Q' := fun e a' w' => ∃ x σ' M', St B0 X I0 w0 n σ' M' a' w' ∧ Q x σ' M' ∧ match x with | .normal => e = .normal | .exit id => e = .exit id | .ret => e = .ret) (g := (List.range' m (l.toArray.size - m)).length) (fun listed σ' a' w' hs' hL => by
    refine wpAny_of_seqL (List.range' m (l.toArray.size - m)) (l.drop m) listed a' w' (range'_map l _ m (by simp; omega)) hL.1.1 ?_
    exact aOps_sound (l.drop m) σ' M a' w' _ hs' (by simpa [dropQ] using hL.2) fun σ' M' _ _ h1 h2 => ⟨.normal, σ', M', h1, h2, rfl⟩) _ _ _ _ _ ⟨Im, β, hg.drew⟩ H
  rw [htl, List.length_range', show m + (l.toArray.size - m) = l.toArray.size by omega] at this
  exact this

/-! ### the steps -/
variable {σ : Slots} {K : Slots → Prop}
theorem ht_nil {l : List Oper} (h : K σ) : hOps P n M ops (List.take 0 l) σ K := by simpa [hOps] using h
theorem ht_plain {dst m : Nat} {op : Op} {type : TypeId} {pos : String} {after : Array Edge} {rest : List Oper} (hd : dst < n)
    (h : ∀ K' : D → Prop, (∀ d, hOps P n M ops (List.take m rest) (upd σ dst d) K → K' d) → hv P M (ev σ) K' op) : hOps P n M ops (List.take (m + 1) (⟨some dst, op, type, pos, after, none⟩ :: rest)) σ K := by
  rw [List.take_succ_cons]; exact h_plain hd h
theorem ht_guard {m : Nat} {dst : Option Tmp} {op : Op} {type : TypeId} {pos : String} {after : Array Edge} {j : Nat} {want : Bool} {rest : List Oper} (d : Nat) (hd : (ops[j]?).bind (·.dst) = some d)
    (h : ∀ A B : Prop, (hOps P n M ops (List.take (m + 1) (⟨dst, op, type, pos, after, none⟩ :: rest)) σ K → A) → (skipQ n dst σ (fun σ' => hOps P n M ops (List.take m rest) σ' K) → B) → grdQ (σ d) want A B) :
    hOps P n M ops (List.take (m + 1) (⟨dst, op, type, pos, after, some (j, want)⟩ :: rest)) σ K := by
  rw [List.take_succ_cons]
  refine h_guard d hd fun A B hA hB => h A B (fun hh => hA ?_) hB
  rwa [List.take_succ_cons] at hh
variable {KT : Slots → Tab → Prop}
theorem dq_succ {b : Bool} {m : Nat} {o : Oper} {rest : List Oper} (h : aOps P n ops (dropQ b m rest) σ M KT) : aOps P n ops (dropQ b (m + 1) (o :: rest)) σ M KT := by
  cases b <;> simpa [dropQ] using h
theorem dq_f {l : List Oper} (h : aOps P n ops l σ M KT) : aOps P n ops (dropQ false 0 l) σ M KT := h
theorem dq_t {e q : Oper} {r : List Oper} (h : aOps P n ops (e :: r) σ M KT) : aOps P n ops (dropQ true 0 (e :: q :: r)) σ M KT := h
end
end Go.Proofs.YtmiclkgkfkcnoaaGreat

/- Regions that draw their order, where operations also make new variables and rows of their own: these are private to one slot until the region ends. -/
namespace Go.Proofs.YtmiclkgkfkcnoaaGreat
open Go.RowKit

abbrev Prv := Nat → Option Ent
def flatC : D → Bool
  | .int .. | .bool _ | .str _ | .nl => true
  | _ => false
def flatE : Ent → Prop
  | .row rows => FlatRows rows
  | .box cells => cells.all flatC = true
def flatB : Ent → Prop
  | .row _ => True
  | .box cells => cells.all flatC = true
theorem flatE.b {e : Ent} (h : flatE e) : flatB e := by cases e <;> simp_all [flatE, flatB]
def pv (i : Nat) : Ent → D
  | .row _ => .fs i
  | .box _ => .ptr i 0 0
def pvVal (g : RowG) : Ent → Value → Prop
  | .row rows, v => v = g.val rows.length
  | .box _, v => g.nil = false ∧ v = .pointer (some ⟨g.blk, 0, none⟩)

structure PrvOk (B0 : Nat) (n : Nat) (Im : Nat → Prop) (β : Nat → RowG) (M : Tab) (Y : Prv) (γ : Nat → RowG) (a : Act) (w : World) : Prop where
  lt : ∀ i e, Y i = some e → i < n ∧ M i = none
  flat : ∀ i e, Y i = some e → flatB e
  ent : ∀ i e, Y i = some e → EntOk w Im β M (γ i) e
  val : ∀ i e, Y i = some e → pvVal (γ i) e (a.tmps.getD i undef)
  own : ∀ i e, Y i = some e → (γ i).nil = false → B0 ≤ (γ i).blk
  disj : ∀ i e id e', Y i = some e → M id = some e' → (γ i).nil = false → (β id).nil = false → (γ i).blk ≠ (β id).blk
  inj : ∀ i j, (Y i).isSome = true → (Y j).isSome = true → (γ i).nil = false → (γ j).nil = false → (γ i).blk = (γ j).blk → i = j

def StX (B0 : Nat) (X : Xs) (I0 : Nat → Prop) (w0 : World) (n : Nat) (σ : Slots) (M : Tab) (Y : Prv) (a : Act) (w : World) : Prop :=
  ∃ Im β γ, StG B0 X I0 w0 n Im β σ M a w ∧ PrvOk B0 n Im β M Y γ a w

section
variable {B0 : Nat} {X : Xs} {I0 : Nat → Prop} {w0 : World} {n : Nat} {Im : Nat → Prop} {β : Nat → RowG} {σ : Nat → D} {M : Nat → Option Ent} {a : Act} {w : World} {P : Program}

theorem RvL_flat {w' : World} {Im' : Nat → Prop} {β' : Nat → RowG} {M' : Tab} : ∀ (cs : List D) (vs : List Value), cs.all flatC = true → RvL w Im β M cs vs → RvL w' Im' β' M' cs vs
  | [], _, _, h => by simpa [RvL] using h
  | c :: cs, vs, hf, h => by
    simp only [List.all_cons, Bool.and_eq_true] at hf
    simp only [RvL] at h ⊢
    obtain ⟨v, r, rfl, h1, h2⟩ := h
    refine ⟨v, r, rfl, ?_, RvL_flat cs r hf.2 h2⟩
    cases c <;> simp [flatC] at hf <;> simpa [Rv, Rc] using h1

theorem EntOk_flat {w' : World} {Im' : Nat → Prop} {β' : Nat → RowG} {M' : Tab} {g : RowG} {e : Ent} (hf : flatE e) (h : EntOk w Im β M g e) (hb : g.nil = false → w'.heap[g.blk]? = w.heap[g.blk]?) (hn : g.nil = false → ¬ Im' g.blk) : EntOk w' Im' β' M' g e := by
  cases e with
  | row rows =>
    simp only [EntOk] at h ⊢
    refine h.imp id ?_
    rintro ⟨h1, h2, h3, h4, cur, ty, h5, h6, h7, h8⟩
    refine ⟨h1, hn h1, h3, h4, cur, ty, by rw [hb h1]; exact h5, h6, h7, ?_⟩
    have key : ∀ (ds : List D) (vs : List Value), (∀ d ∈ ds, scal d = true) → RcL w Im ds vs → RcL w' Im' ds vs := by
      intro ds
      induction ds with
      | nil => intro vs _ h; simpa [RcL] using h
      | cons d ds ih =>
        intro vs hs h
        simp only [RcL] at h ⊢
        obtain ⟨v, r, rfl, e1, e2⟩ := h
        refine ⟨v, r, rfl, ?_, ih r (fun x hx => hs x (by simp [hx])) e2⟩
        have := hs d (by simp)
        cases d <;> simp [scal] at this <;> simpa [Rc] using e1
    have key2 : ∀ (rs : List (List D)) (s : Nat) (l : List Value), FlatRows rs → RcRowsL w Im rs s l → RcRowsL w' Im' rs s l := by
      intro rs
      induction rs with
      | nil => intro s l _ _; simp [RcRowsL]
      | cons r rs ih =>
        intro s l hfl h
        simp only [RcRowsL] at h ⊢
        obtain ⟨c, rest, rfl, e1, e2, e3⟩ := h
        exact ⟨c, rest, rfl, e1, key _ _ (fun d hd => hfl r (by simp) d hd) e2, ih s rest (fun r' hr => hfl r' (by simp [hr])) e3⟩
    exact key2 _ _ _ hf h8
  | box cells =>
    simp only [EntOk] at h ⊢
    obtain ⟨h1, h2, cur, ty, h3, h4, h5⟩ := h
    exact ⟨h1, hn h1, cur, ty, by rw [hb h1]; exact h3, h4, RvL_flat _ _ hf h5⟩
theorem EntOk_cl {w' : World} {Im' : Nat → Prop} {β' : Nat → RowG} {M' : Tab} {g : RowG} {e : Ent} (hf : flatB e) (h : EntOk w Im β M g e) (hb : g.nil = false → w'.heap[g.blk]? = w.heap[g.blk]?) (hn : g.nil = false → ¬ Im' g.blk)
    (hc : ∀ b o, Im b → w'.cell? ⟨b, o, none⟩ = w.cell? ⟨b, o, none⟩) (hi : ∀ b, Im b → Im' b) : EntOk w' Im' β' M' g e := by
  cases e with
  | row rows =>
    simp only [EntOk] at h ⊢
    refine h.imp id ?_
    rintro ⟨h1, h2, h3, h4, cur, ty, h5, h6, h7, h8⟩
    exact ⟨h1, hn h1, h3, h4, cur, ty, by rw [hb h1]; exact h5, h6, h7, RcRowsL_mono hc hi _ _ _ h8⟩
  | box cells => exact EntOk_flat (e := .box cells) hf h hb hn
theorem EntOk_blk {g : RowG} {e : Ent} (h : EntOk w Im β M g e) (hn : g.nil = false) : g.blk < w.heap.size ∧ ¬ Im g.blk := by
  cases e with
  | row rows =>
    simp only [EntOk] at h
    rcases h with ⟨h1, _⟩ | ⟨_, h2, _, _, cur, e, h5, _⟩
    · rw [hn] at h1; cases h1
    · exact ⟨(Array.getElem?_eq_some_iff.1 h5).1, h2⟩
  | box cells =>
    simp only [EntOk] at h
    obtain ⟨_, h2, cur, e, h5, _⟩ := h
    exact ⟨(Array.getElem?_eq_some_iff.1 h5).1, h2⟩

def tabBlk (β : Nat → RowG) (M : Tab) : Nat → Prop := fun b => ∃ id e, M id = some e ∧ (β id).nil = false ∧ b = (β id).blk
def Xs.now (X : Xs) (p : Nat → Prop) : Xs := ⟨p, X.pin, X.lo⟩

theorem StG.rebase (h : StG B0 X I0 w0 n Im β σ M a w) : StG w.heap.size (X.now (tabBlk β M)) Im w n Im β σ M a w :=
  { defers := h.defers, size := h.size, slots := h.slots, hi := h.hi, im := h.im, tab := h.tab, own := fun id e he hn => .inr ⟨id, e, he, hn, rfl⟩, inj := h.inj, base := Nat.le_refl _, fr := Fr.refl _ _ _, imo := fun _ hb => .inl hb, pin := h.pin, small := h.small }
theorem StG.unbase {Im' : Nat → Prop} {β' : Nat → RowG} {σ' : Slots} {M' : Tab} {a' : Act} {w' : World} (h : StG B0 X I0 w0 n Im β σ M a w) (h' : StG w.heap.size (X.now (tabBlk β M)) Im w n Im' β' σ' M' a' w') : StG B0 X I0 w0 n Im' β' σ' M' a' w' := by
  have hown : ∀ b, tabBlk β M b → B0 ≤ b ∨ X.blk b := by
    rintro b ⟨id, e, he, hn, rfl⟩
    exact h.own id e he hn
  refine { defers := h'.defers, size := h'.size, slots := h'.slots, hi := h'.hi, im := h'.im, tab := h'.tab, own := ?_, inj := h'.inj, base := Nat.le_trans h.base h'.fr.size, fr := ?_, imo := ?_, pin := h'.pin, small := h'.small }
  · intro id e he hn
    rcases h'.own id e he hn with h1 | h1
    · exact .inl (Nat.le_trans h.base h1)
    · exact hown _ h1
  · refine h.fr.trans ⟨h'.fr.os, h'.fr.tape, h'.fr.output, h'.fr.size, fun k hk hx => h'.fr.block k (Nat.lt_of_lt_of_le hk h.base) fun hb => ?_⟩
    rcases hown _ hb with h1 | h1
    · omega
    · exact hx h1
  · intro b hb
    rcases h'.imo b hb with h1 | h1 | h1
    · exact h.imo b h1
    · exact .inr (.inl (Nat.le_trans h.base h1))
    · exact .inr (hown _ h1)

theorem StG.keepIm {Im' : Nat → Prop} {β' : Nat → RowG} {σ' : Slots} {M' : Tab} {a' : Act} {w' : World} (h : StG B0 X I0 w0 n Im β σ M a w) (h' : StG w.heap.size (X.now (tabBlk β M)) Im w n Im' β' σ' M' a' w') :
    StG w.heap.size (X.now (tabBlk β M)) Im w n (fun b => Im' b ∨ Im b) β' σ' M' a' w' ∧ ∀ b o, Im b → w'.cell? ⟨b, o, none⟩ = w.cell? ⟨b, o, none⟩ := by
  have hno : ∀ b, Im b → ¬ tabBlk β M b := by
    rintro b hb ⟨id, e, he, hn, rfl⟩
    exact h.not_im he hn hb
  have hc : ∀ b o, Im b → w'.cell? ⟨b, o, none⟩ = w.cell? ⟨b, o, none⟩ := fun b o hb => World.cell?_of_block (w := w) (h'.fr.block b (h.im b hb) (hno b hb))
  refine ⟨{ h' with slots := fun i hi => Rv_mono (fun _ _ _ => rfl) (fun _ hb => .inl hb) (Agree.refl _ _) _ _ (h'.slots i hi), im := ?_, tab := ?_, imo := ?_ }, hc⟩
  · rintro b (hb | hb)
    · exact h'.im b hb
    · exact Nat.lt_of_lt_of_le (h.im b hb) h'.fr.size
  · intro id e he
    refine EntOk_mono (fun _ _ _ => rfl) (fun _ hb => .inl hb) (Agree.refl _ _) (fun hn => ?_) (fun _ => rfl) e (h'.tab id e he)
    rintro (hb | hb)
    · exact h'.not_im he hn hb
    · rcases h'.own id e he hn with g | g
      · have := h.im _ hb; omega
      · exact hno _ hb g
  · rintro b (hb | hb)
    · exact h'.imo b hb
    · exact .inl hb
theorem getD_put {a : Act} {t i : Nat} {v : Value} (h : i ≠ t) : (a.put (some t) v).tmps.getD i undef = a.tmps.getD i undef := by
  simp [Act.put, Array.getElem?_setIfInBounds_ne (Ne.symm h)]

theorem PrvOk.put {B0 : Nat} {Y : Prv} {γ : Nat → RowG} (h : PrvOk B0 n Im β M Y γ a w) {t : Nat} (ht : Y t = none) (v : Value) : PrvOk B0 n Im β M Y γ (a.put (some t) v) w :=
  { h with val := fun i e he => by rw [getD_put (fun hh => by rw [hh, ht] at he; cases he)]; exact h.val i e he }

theorem hvX_sound {Y : Prv} (hx : StX B0 X I0 w0 n σ M Y a w) {o : Oper} {r : D} (hq : hv P M (ev σ) (· = r) o.op) (hd : ∀ t, o.dst = some t → t < n ∧ Y t = none) (K' : Act → World → Prop) (Q : Exit → Act → World → Prop)
    (hk : ∀ a' w', StX B0 X I0 w0 n (putA σ o.dst r) M Y a' w' → K' a' w') : o.wp P a w K' Q := by
  obtain ⟨Im, β, γ, h, hp⟩ := hx
  refine hv_sound h.rebase hq K' Q fun v w' Im1 β' h1' h2' => hk _ _ ?_
  obtain ⟨h1, hcI⟩ := h.keepIm h1'
  have h2 := Rv_mono (β' := β') (M' := M) (fun _ _ _ => rfl) (fun b (hb : Im1 b) => (Or.inl hb : Im1 b ∨ Im b)) (Agree.refl _ _) _ _ h2'
  generalize hI : (fun b => Im1 b ∨ Im b) = Im' at h1 h2
  have hII : ∀ b, Im b → Im' b := fun b hb => by rw [← hI]; exact .inr hb
  have h3 := h.unbase h1
  have hsame : ∀ i e, Y i = some e → (γ i).nil = false → w'.heap[(γ i).blk]? = w.heap[(γ i).blk]? := by
    intro i e he hn
    have hb := EntOk_blk (hp.ent i e he) hn
    refine h1.fr.block _ hb.1 ?_
    rintro ⟨id, e', he', hn', heq⟩
    exact hp.disj i e id e' he he' hn hn' heq
  have hprv : PrvOk B0 n Im' β' M Y γ a w' := by
    refine { lt := hp.lt, flat := hp.flat, ent := ?_, val := hp.val, own := hp.own, disj := ?_, inj := hp.inj }
    · intro i e he
      refine EntOk_cl (hp.flat i e he) (hp.ent i e he) (hsame i e he) ?_ hcI hII
      intro hn him
      have hb := EntOk_blk (hp.ent i e he) hn
      rcases h1.imo _ him with g | g | ⟨id, e', he', hn', heq⟩
      · exact hb.2 g
      · have := hb.1; omega
      · exact hp.disj i e id e' he he' hn hn' heq
    · intro i e id e' he he' hn hn' heq
      have hb := EntOk_blk (hp.ent i e he) hn
      rcases h1.own id e' he' hn' with g | ⟨id2, e2, he2, hn2, heq2⟩
      · rw [← heq] at g; have := hb.1; omega
      · exact hp.disj i e id2 e2 he he2 hn hn2 (heq.trans heq2)
  cases hdst : o.dst with
  | none => exact ⟨Im', β', γ, by simpa [putA, Act.put] using h3, by simpa [Act.put] using hprv⟩
  | some t =>
    obtain ⟨ht, hy⟩ := hd t hdst
    exact ⟨Im', β', γ, h3.put ht h2, hprv.put hy v⟩

def vw (M : Tab) : D → D
  | .nl => .nl
  | d => view M d
def miniS (M : Tab) (σ : Slots) (Y : Prv) (x : Option Nat) : Slots := fun i =>
  if x = some i then (match Y i with | some e => pv i e | none => .any) else vw M (σ i)
def miniT (Y : Prv) (x : Option Nat) : Tab := fun j => if x = some j then Y j else none

theorem mini_st {Y : Prv} {γ : Nat → RowG} (h : StG B0 X I0 w0 n Im β σ M a w) (hp : PrvOk B0 n Im β M Y γ a w) (x : Option Nat) (hx : ∀ xs, x = some xs → (Y xs).isSome = true) :
    St w.heap.size ⟨fun b => ∃ xs, x = some xs ∧ (γ xs).nil = false ∧ b = (γ xs).blk, fun _ => none, fun _ _ => rfl⟩ (fun b => b < w.heap.size ∧ ¬ ∃ xs, x = some xs ∧ (γ xs).nil = false ∧ b = (γ xs).blk) w n (miniS M σ Y x) (miniT Y x) a w := by
  have hget : ∀ j e, miniT Y x j = some e → x = some j ∧ Y j = some e := by
    intro j e hj
    unfold miniT at hj
    split at hj
    · rename_i hxj; exact ⟨hxj, hj⟩
    · cases hj
  refine ⟨fun b => b < w.heap.size ∧ ¬ ∃ xs, x = some xs ∧ (γ xs).nil = false ∧ b = (γ xs).blk, γ, { defers := h.defers, size := h.size, slots := ?_, hi := ?_, im := fun b hb => hb.1, tab := ?_, own := ?_, inj := ?_, base := Nat.le_refl _, fr := Fr.refl _ _ _, imo := fun b hb => .inl hb, pin := fun _ _ hh => (by cases hh), small := .inr fun _ => rfl }⟩
  · intro i hi
    unfold miniS
    split
    · rename_i hxi
      obtain ⟨e, he⟩ := Option.isSome_iff_exists.1 (hx i hxi)
      simp only [he]
      have hv := hp.val i e he
      cases e with
      | row rows =>
        simp only [pv, Rv]
        exact ⟨rows.length, by simp [miniT, hxi, he, Ent.len], hv⟩
      | box cells =>
        simp only [pv, Rv]
        exact ⟨by simp [miniT, hxi, he], hv.1, by simpa using hv.2⟩
    · have hdis : ∀ b, tabBlk β M b → ¬ ∃ xs, x = some xs ∧ (γ xs).nil = false ∧ b = (γ xs).blk := by
        rintro b ⟨id, e', he', hn', rfl⟩ ⟨xs, hxs, hn, heq⟩
        obtain ⟨e, he⟩ := Option.isSome_iff_exists.1 (hx xs hxs)
        exact hp.disj xs e id e' he he' hn hn' heq.symm
      have hsub : ∀ b, Im b → b < w.heap.size ∧ ¬ ∃ xs, x = some xs ∧ (γ xs).nil = false ∧ b = (γ xs).blk := by
        intro b hb
        refine ⟨h.im b hb, ?_⟩
        rintro ⟨xs, hxs, hn, rfl⟩
        obtain ⟨e, he⟩ := Option.isSome_iff_exists.1 (hx xs hxs)
        exact (EntOk_blk (hp.ent xs e he) hn).2 hb
      have hsl := h.slots i hi
      unfold vw
      split
      · rename_i hnl
        rw [hnl] at hsl
        simpa only [Rv, Rc] using hsl
      refine Rv_of_Rc _ _ (Rc_viewG (M := M) (β := β) (Im := Im) hsub ?_ _ _ hsl)
      intro id rows hid
      exact Rc_of_rows hsub (fun hn => ⟨h.blk_lt hid hn, hdis _ ⟨id, _, hid, hn, rfl⟩⟩) (h.tab id _ hid)
  · intro i hi
    unfold miniS
    split
    · rename_i hxi
      obtain ⟨e, he⟩ := Option.isSome_iff_exists.1 (hx i hxi)
      have := (hp.lt i e he).1
      omega
    · rcases h.hi i hi with e | e <;> simp [e, vw, view]
  · intro j e hj
    obtain ⟨hxj, hy⟩ := hget j e hj
    refine EntOk_cl (hp.flat j e hy) (hp.ent j e hy) (fun _ => rfl) (fun hn hb => hb.2 ⟨j, hxj, hn, rfl⟩) (fun _ _ _ => rfl) ?_
    intro b hb
    refine ⟨h.im b hb, ?_⟩
    rintro ⟨xs, hxs, hn, rfl⟩
    obtain ⟨e, he⟩ := Option.isSome_iff_exists.1 (hx xs hxs)
    exact (EntOk_blk (hp.ent xs e he) hn).2 hb
  · intro j e hj hn
    obtain ⟨hxj, hy⟩ := hget j e hj
    exact .inr ⟨j, hxj, hn, rfl⟩
  · intro j j' hj hj' _ _ _
    obtain ⟨e, he⟩ := Option.isSome_iff_exists.1 hj
    obtain ⟨e', he'⟩ := Option.isSome_iff_exists.1 hj'
    have h1 := (hget j e he).1
    have h2 := (hget j' e' he').1
    rw [h1] at h2
    exact Option.some.inj h2

theorem StG.frame (h : StG B0 X I0 w0 n Im β σ M a w) {w' : World} {p : Nat → Prop} (hos : w'.os = w.os) (htape : w'.tape = w.tape) (hout : w'.output = w.output) (hsize : w.heap.size ≤ w'.heap.size)
    (hblock : ∀ k, k < w.heap.size → ¬ p k → w'.heap[k]? = w.heap[k]?) (hpi : ∀ k, p k → ¬ Im k ∧ ¬ tabBlk β M k ∧ B0 ≤ k) : StG B0 X I0 w0 n Im β σ M a w' := by
  have hc : ∀ b o, Im b → w'.cell? ⟨b, o, none⟩ = w.cell? ⟨b, o, none⟩ := fun b o hb => World.cell?_of_block (w := w) (hblock b (h.im b hb) fun hp => (hpi b hp).1 hb)
  refine { h with slots := fun i hi => Rv_mono hc (fun _ hb => hb) (Agree.refl _ _) _ _ (h.slots i hi), im := fun b hb => Nat.lt_of_lt_of_le (h.im b hb) hsize, tab := ?_, base := Nat.le_trans h.base hsize, fr := ?_ }
  · intro id e he
    refine EntOk_mono hc (fun _ hb => hb) (Agree.refl _ _) (fun hn => h.not_im he hn) (fun hn => hblock _ (h.blk_lt he hn) fun hp => (hpi _ hp).2.1 ⟨id, e, he, hn, rfl⟩) e (h.tab id e he)
  · refine h.fr.trans ⟨hos, htape, hout, hsize, fun k hk _ => hblock k (Nat.lt_of_lt_of_le hk h.base) fun hp => ?_⟩
    have := (hpi k hp).2.2
    omega

theorem StG.frame2 (h : StG B0 X I0 w0 n Im β σ M a w) {w' : World} {p Im' : Nat → Prop} (hos : w'.os = w.os) (htape : w'.tape = w.tape) (hout : w'.output = w.output) (hsize : w.heap.size ≤ w'.heap.size)
    (hblock : ∀ k, k < w.heap.size → ¬ p k → w'.heap[k]? = w.heap[k]?) (hpi : ∀ k, p k → ¬ Im k ∧ ¬ tabBlk β M k ∧ B0 ≤ k) (hi : ∀ b, Im b → Im' b) (hn : ∀ b, Im' b → Im b ∨ w.heap.size ≤ b ∨ p b) (hl : ∀ b, Im' b → b < w'.heap.size) : StG B0 X I0 w0 n Im' β σ M a w' := by
  have hc : ∀ b o, Im b → w'.cell? ⟨b, o, none⟩ = w.cell? ⟨b, o, none⟩ := fun b o hb => World.cell?_of_block (w := w) (hblock b (h.im b hb) fun hp => (hpi b hp).1 hb)
  refine { h with slots := fun i hi' => Rv_mono hc hi (Agree.refl _ _) _ _ (h.slots i hi'), im := hl, tab := ?_, base := Nat.le_trans h.base hsize, fr := ?_, imo := ?_ }
  · intro id e he
    refine EntOk_mono hc hi (Agree.refl _ _) (fun hn' hb => ?_) (fun hn' => hblock _ (h.blk_lt he hn') fun hp => (hpi _ hp).2.1 ⟨id, e, he, hn', rfl⟩) e (h.tab id e he)
    rcases hn _ hb with g | g | g
    · exact h.not_im he hn' g
    · have := h.blk_lt he hn'; omega
    · exact (hpi _ g).2.1 ⟨id, e, he, hn', rfl⟩
  · refine h.fr.trans ⟨hos, htape, hout, hsize, fun k hk _ => hblock k (Nat.lt_of_lt_of_le hk h.base) fun hp => ?_⟩
    have := (hpi k hp).2.2
    omega
  · intro b hb
    rcases hn b hb with g | g | g
    · exact h.imo b g
    · exact .inr (.inl (Nat.le_trans h.base g))
    · exact .inr (.inl (hpi b g).2.2)

theorem wp_shape {o : Oper} {K : Act → World → Prop} {Q : Exit → Act → World → Prop} (h : o.wp P a w K Q) : o.wp P a w (fun a' w' => K a' w' ∧ ((∃ v, a' = a.put o.dst v) ∨ a'.defers ≠ [])) Q := by
  unfold Oper.wp at *
  generalize (execOp a.eval o).run P w = r at *
  cases r with
  | ok nx w' =>
    cases nx <;> simp only [Oper.upon] at h ⊢
    case value v => exact ⟨h, .inl ⟨v, rfl⟩⟩
    case skip => exact ⟨h, .inl ⟨_, rfl⟩⟩
    case defer d => refine ⟨h, .inr ?_⟩; cases o.dst <;> simp [Act.put]
    case enter f args =>
      refine Calls.mono h fun e w'' he => ?_
      cases e with
      | returned u => exact ⟨he, .inl ⟨u, rfl⟩⟩
      | panicked c => exact he
      | outgrown => exact he
    case row row args => exact Rows.mono h fun u w'' he => ⟨he, .inl ⟨u, rfl⟩⟩
  | halt x w' => cases x <;> simp only [Oper.upon] at h ⊢ <;> exact h

def effY (Y : Prv) (d : Nat) (x : Option Nat) (e : Ent) : Prv := fun j => if j = d then some e else if x = some j then none else Y j

theorem effX_sound {Y : Prv} (hX : StX B0 X I0 w0 n σ M Y a w) {o : Oper} {d : Nat} {x : Option Nat} {e' : Ent} (hd : o.dst = some d) (hdn : d < n) (hY : Y d = none) (hM : M d = none) (hf : flatE e') (hx : ∀ xs, x = some xs → (Y xs).isSome = true)
    (hq : stp P n o.dst o.op (miniS M σ Y x) (miniT Y x) fun σ' M' => ∃ id, M' id = some e' ∧ σ' d = pv id e') (K' : Act → World → Prop) (Q : Exit → Act → World → Prop)
    (hk : ∀ a' w', StX B0 X I0 w0 n (upd σ d .any) M (effY Y d x e') a' w' → K' a' w') : o.wp P a w K' Q := by
  obtain ⟨Im, β, γ, h, hp⟩ := hX
  obtain ⟨Im1, β1, hm⟩ := mini_st h hp x hx
  have hw := wp_shape (stp_sound hm hq (fun a' w' => ∃ σ' M', St w.heap.size ⟨fun b => ∃ xs, x = some xs ∧ (γ xs).nil = false ∧ b = (γ xs).blk, fun _ => none, fun _ _ => rfl⟩ (fun b => b < w.heap.size ∧ ¬ ∃ xs, x = some xs ∧ (γ xs).nil = false ∧ b = (γ xs).blk) w n σ' M' a' w' ∧ ∃ id, M' id = some e' ∧ σ' d = pv id e') Q (fun σ' M' a' w' hs hh => ⟨σ', M', hs, hh⟩))
  refine Oper.wp_mono (fun a' w' hh => hk a' w' ?_) hw
  obtain ⟨⟨σ', M', ⟨Im2, β2, h2⟩, id, hid, hσ⟩, hshape⟩ := hh
  obtain ⟨v, rfl⟩ : ∃ v, a' = a.put o.dst v := hshape.resolve_right fun hne => hne h2.defers
  rw [hd] at h2 ⊢
  have hblock : ∀ k, k < w.heap.size → ¬ (∃ xs, x = some xs ∧ (γ xs).nil = false ∧ k = (γ xs).blk) → w'.heap[k]? = w.heap[k]? := fun k hk hn => h2.fr.block k hk hn
  have hbase : StG B0 X I0 w0 n Im β σ M a w' := by
    refine h.frame (p := fun k => ∃ xs, x = some xs ∧ (γ xs).nil = false ∧ k = (γ xs).blk) h2.fr.os h2.fr.tape h2.fr.output h2.fr.size hblock ?_
    rintro k ⟨xs, hxs, hn, rfl⟩
    obtain ⟨e, he⟩ := Option.isSome_iff_exists.1 (hx xs hxs)
    refine ⟨(EntOk_blk (hp.ent xs e he) hn).2, ?_, hp.own xs e he hn⟩
    rintro ⟨id2, e2, he2, hn2, heq⟩
    exact hp.disj xs e id2 e2 he he2 hn hn2 heq
  have hent := h2.tab id e' hid
  have hnew : (β2 id).nil = false → (w.heap.size ≤ (β2 id).blk ∨ ∃ xs, x = some xs ∧ (γ xs).nil = false ∧ (β2 id).blk = (γ xs).blk) := fun hn => h2.own id e' hid hn
  have hv := h2.slots d hdn
  have hgd : (a.put (some d) v).tmps.getD d undef = v := by simp [Act.put, h.size, hdn]
  have hY' : ∀ i e, effY Y d x e' i = some e → (i = d ∧ e = e') ∨ (i ≠ d ∧ x ≠ some i ∧ Y i = some e) := by
    intro i e he
    unfold effY at he
    split at he
    · rename_i hi; cases he; exact .inl ⟨hi, rfl⟩
    · rename_i hi
      split at he
      · cases he
      · rename_i hxi; exact .inr ⟨hi, hxi, he⟩
  have hother : ∀ i e, Y i = some e → x ≠ some i → (γ i).nil = false → ¬ ∃ xs, x = some xs ∧ (γ xs).nil = false ∧ (γ i).blk = (γ xs).blk := by
    rintro i e he hxi hn ⟨xs, hxs, hnx, heq⟩
    have := hp.inj i xs (by rw [he]; rfl) (hx xs hxs) hn hnx heq
    exact hxi (this ▸ hxs)
  have fresh : ∀ b, b < w.heap.size → (¬ ∃ xs, x = some xs ∧ (γ xs).nil = false ∧ b = (γ xs).blk) → (β2 id).nil = false → (β2 id).blk ≠ b := by
    intro b hb hnx hn heq
    rcases hnew hn with g | ⟨xs, hxs, hnx', heq'⟩
    · omega
    · exact hnx ⟨xs, hxs, hnx', by rw [← heq]; exact heq'⟩
  refine ⟨Im, β, upd γ d (β2 id), hbase.put hdn (by simp [Rv, Rc]), ?_⟩
  refine { lt := ?_, flat := ?_, ent := ?_, val := ?_, own := ?_, disj := ?_, inj := ?_ }
  · intro i e he
    rcases hY' i e he with ⟨rfl, _⟩ | ⟨_, _, hy⟩
    · exact ⟨hdn, hM⟩
    · exact hp.lt i e hy
  · intro i e he
    rcases hY' i e he with ⟨_, rfl⟩ | ⟨_, _, hy⟩
    · exact hf.b
    · exact hp.flat i e hy
  · intro i e he
    rcases hY' i e he with ⟨rfl, rfl⟩ | ⟨hi, hxi, hy⟩
    · rw [upd_same]
      refine EntOk_flat hf hent (fun _ => rfl) fun hn him => ?_
      rcases hnew hn with g | ⟨xs, hxs, hnx, heq⟩
      · have := h.im _ him; omega
      · obtain ⟨e, he⟩ := Option.isSome_iff_exists.1 (hx xs hxs)
        exact (EntOk_blk (hp.ent xs e he) hnx).2 (heq ▸ him)
    · rw [upd_ne _ _ hi]
      refine EntOk_cl (hp.flat i e hy) (hp.ent i e hy) (fun hn => hblock _ (EntOk_blk (hp.ent i e hy) hn).1 (hother i e hy hxi hn)) (fun hn => (EntOk_blk (hp.ent i e hy) hn).2) (fun b o hb => World.cell?_of_block (w := w) (hblock b (h.im b hb) ?_)) (fun _ hb => hb)
      rintro ⟨xs, hxs, hnx, rfl⟩
      obtain ⟨e2, he2⟩ := Option.isSome_iff_exists.1 (hx xs hxs)
      exact (EntOk_blk (hp.ent xs e2 he2) hnx).2 hb
  · intro i e he
    rcases hY' i e he with ⟨rfl, rfl⟩ | ⟨hi, hxi, hy⟩
    · rw [upd_same, hgd]
      rw [hgd, hσ] at hv
      cases e with
      | row rows =>
        simp only [pv, Rv, hid, Option.bind_some, Ent.len, Option.some.injEq] at hv
        obtain ⟨m, rfl, hv⟩ := hv
        exact hv
      | box cells =>
        simp only [pv, Rv] at hv
        exact ⟨hv.2.1, by simpa using hv.2.2⟩
    · rw [upd_ne _ _ hi, getD_put hi]
      exact hp.val i e hy
  · intro i e he hn
    rcases hY' i e he with ⟨rfl, rfl⟩ | ⟨hi, hxi, hy⟩
    · rw [upd_same] at hn ⊢
      rcases hnew hn with g | ⟨xs, hxs, hnx, heq⟩
      · exact Nat.le_trans h.base g
      · obtain ⟨e2, he2⟩ := Option.isSome_iff_exists.1 (hx xs hxs)
        rw [heq]; exact hp.own xs e2 he2 hnx
    · rw [upd_ne _ _ hi] at hn ⊢
      exact hp.own i e hy hn
  · intro i e id2 e2 he he2 hn hn2
    rcases hY' i e he with ⟨rfl, rfl⟩ | ⟨hi, hxi, hy⟩
    · rw [upd_same] at hn ⊢
      refine fresh _ (h.blk_lt he2 hn2) ?_ hn
      rintro ⟨xs, hxs, hnx, heq⟩
      obtain ⟨e3, he3⟩ := Option.isSome_iff_exists.1 (hx xs hxs)
      exact hp.disj xs e3 id2 e2 he3 he2 hnx hn2 heq.symm
    · rw [upd_ne _ _ hi] at hn ⊢
      exact hp.disj i e id2 e2 hy he2 hn hn2
  · intro i j hi hj hni hnj heq
    obtain ⟨e1, he1⟩ := Option.isSome_iff_exists.1 hi
    obtain ⟨e2, he2⟩ := Option.isSome_iff_exists.1 hj
    rcases hY' i e1 he1 with ⟨rfl, _⟩ | ⟨hi', hxi, hy⟩ <;> rcases hY' j e2 he2 with ⟨hj', _⟩ | ⟨hj', hxj, hy2⟩
    · exact hj'.symm
    · rw [upd_same] at hni heq
      rw [upd_ne _ _ hj'] at hnj heq
      exact absurd heq (fresh _ (EntOk_blk (hp.ent j e2 hy2) hnj).1 (hother j e2 hy2 hxj hnj) hni)
    · subst hj'
      rw [upd_same] at hnj heq
      rw [upd_ne _ _ hi'] at hni heq
      exact absurd heq.symm (fresh _ (EntOk_blk (hp.ent i e1 hy) hni).1 (hother i e1 hy hxi hni) hnj)
    · rw [upd_ne _ _ hi'] at hni heq
      rw [upd_ne _ _ hj'] at hnj heq
      exact hp.inj i j (by rw [hy]; rfl) (by rw [hy2]; rfl) hni hnj heq

def miniS2 (M : Tab) (σ : Slots) (Y : Prv) (x : Option Nat) : Slots := fun i =>
  if x = some i then (match Y i with | some e => pv i e | none => .any) else if noFs (σ i) = true then vw M (σ i) else .any
theorem Rc_vwNo {d : D} {v : Value} (hn : noFs d = true) (h : Rv w Im β M d v) : Rc w Im (vw M d) v := by
  unfold vw
  split
  · simpa only [Rv] using h
  · exact Rc_viewNo _ _ hn h
theorem mini_st2 {Y : Prv} {γ : Nat → RowG} (h : StG B0 X I0 w0 n Im β σ M a w) (hp : PrvOk B0 n Im β M Y γ a w) (x : Option Nat) (hx : ∀ xs, x = some xs → (Y xs).isSome = true) :
    St w.heap.size ⟨fun b => ∃ xs, x = some xs ∧ (γ xs).nil = false ∧ b = (γ xs).blk, fun _ => none, fun _ _ => rfl⟩ Im w n (miniS2 M σ Y x) (miniT Y x) a w := by
  have hget : ∀ j e, miniT Y x j = some e → x = some j ∧ Y j = some e := by
    intro j e hj
    unfold miniT at hj
    split at hj
    · rename_i hxj; exact ⟨hxj, hj⟩
    · cases hj
  refine ⟨Im, γ, { defers := h.defers, size := h.size, slots := ?_, hi := ?_, im := h.im, tab := ?_, own := ?_, inj := ?_, base := Nat.le_refl _, fr := Fr.refl _ _ _, imo := fun b hb => .inl hb, pin := fun _ _ hh => (by cases hh), small := .inr fun _ => rfl }⟩
  · intro i hi
    unfold miniS2
    split
    · rename_i hxi
      obtain ⟨e, he⟩ := Option.isSome_iff_exists.1 (hx i hxi)
      simp only [he]
      have hv := hp.val i e he
      cases e with
      | row rows =>
        simp only [pv, Rv]
        exact ⟨rows.length, by simp [miniT, hxi, he, Ent.len], hv⟩
      | box cells =>
        simp only [pv, Rv]
        exact ⟨by simp [miniT, hxi, he], hv.1, by simpa using hv.2⟩
    · split
      · rename_i hnf
        exact Rv_of_Rc _ _ (Rc_vwNo hnf (h.slots i hi))
      · simp [Rv, Rc]
  · intro i hi
    unfold miniS2
    split
    · rename_i hxi
      obtain ⟨e, he⟩ := Option.isSome_iff_exists.1 (hx i hxi)
      have := (hp.lt i e he).1
      omega
    · split
      · rcases h.hi i hi with e | e <;> simp [e, vw, view]
      · exact .inr rfl
  · intro j e hj
    obtain ⟨hxj, hy⟩ := hget j e hj
    exact EntOk_cl (hp.flat j e hy) (hp.ent j e hy) (fun _ => rfl) (fun hn => (EntOk_blk (hp.ent j e hy) hn).2) (fun _ _ _ => rfl) (fun _ hb => hb)
  · intro j e hj hn
    obtain ⟨hxj, hy⟩ := hget j e hj
    exact .inr ⟨j, hxj, hn, rfl⟩
  · intro j j' hj hj' _ _ _
    obtain ⟨e, he⟩ := Option.isSome_iff_exists.1 hj
    obtain ⟨e', he'⟩ := Option.isSome_iff_exists.1 hj'
    have h1 := (hget j e he).1
    have h2 := (hget j' e' he').1
    rw [h1] at h2
    exact Option.some.inj h2

theorem effX_sound2 {Y : Prv} (hX : StX B0 X I0 w0 n σ M Y a w) {o : Oper} {d : Nat} {x : Option Nat} {e' : Ent} (hd : o.dst = some d) (hdn : d < n) (hY : Y d = none) (hM : M d = none) (hf : flatB e') (hx : ∀ xs, x = some xs → (Y xs).isSome = true)
    (hq : stp P n o.dst o.op (miniS2 M σ Y x) (miniT Y x) fun σ' M' => ∃ id, M' id = some e' ∧ σ' d = pv id e') (K' : Act → World → Prop) (Q : Exit → Act → World → Prop)
    (hk : ∀ a' w', StX B0 X I0 w0 n (upd σ d .any) M (effY Y d x e') a' w' → K' a' w') : o.wp P a w K' Q := by
  obtain ⟨Im, β, γ, h, hp⟩ := hX
  obtain ⟨Im1, β1, hm⟩ := mini_st2 h hp x hx
  have hw := wp_shape (stp_sound hm hq (fun a' w' => ∃ σ' M', St w.heap.size ⟨fun b => ∃ xs, x = some xs ∧ (γ xs).nil = false ∧ b = (γ xs).blk, fun _ => none, fun _ _ => rfl⟩ Im w n σ' M' a' w' ∧ ∃ id, M' id = some e' ∧ σ' d = pv id e') Q (fun σ' M' a' w' hs hh => ⟨σ', M', hs, hh⟩))
  refine Oper.wp_mono (fun a' w' hh => hk a' w' ?_) hw
  obtain ⟨⟨σ', M', ⟨Im2, β2, h2⟩, id, hid, hσ⟩, hshape⟩ := hh
  obtain ⟨v, rfl⟩ : ∃ v, a' = a.put o.dst v := hshape.resolve_right fun hne => hne h2.defers
  rw [hd] at h2 ⊢
  have hblock : ∀ k, k < w.heap.size → ¬ (∃ xs, x = some xs ∧ (γ xs).nil = false ∧ k = (γ xs).blk) → w'.heap[k]? = w.heap[k]? := fun k hk hn => h2.fr.block k hk hn
  have himo : ∀ b, Im2 b → Im b ∨ w.heap.size ≤ b ∨ ∃ xs, x = some xs ∧ (γ xs).nil = false ∧ b = (γ xs).blk := h2.imo
  have hcI : ∀ b o, Im b → w'.cell? ⟨b, o, none⟩ = w.cell? ⟨b, o, none⟩ := by
    intro b o hb
    refine World.cell?_of_block (w := w) (hblock b (h.im b hb) ?_)
    rintro ⟨xs, hxs, hnx, rfl⟩
    obtain ⟨e2, he2⟩ := Option.isSome_iff_exists.1 (hx xs hxs)
    exact (EntOk_blk (hp.ent xs e2 he2) hnx).2 hb
  have hbase : StG B0 X I0 w0 n (fun b => Im b ∨ Im2 b) β σ M a w' := by
    refine h.frame2 (p := fun k => ∃ xs, x = some xs ∧ (γ xs).nil = false ∧ k = (γ xs).blk) h2.fr.os h2.fr.tape h2.fr.output h2.fr.size hblock ?_ (fun _ hb => .inl hb) (fun b hb => hb.elim .inl (himo b)) (fun b hb => hb.elim (fun g => Nat.lt_of_lt_of_le (h.im b g) h2.fr.size) (h2.im b))
    rintro k ⟨xs, hxs, hn, rfl⟩
    obtain ⟨e, he⟩ := Option.isSome_iff_exists.1 (hx xs hxs)
    refine ⟨(EntOk_blk (hp.ent xs e he) hn).2, ?_, hp.own xs e he hn⟩
    rintro ⟨id2, e2, he2, hn2, heq⟩
    exact hp.disj xs e id2 e2 he he2 hn hn2 heq
  have hent := h2.tab id e' hid
  have hnew : (β2 id).nil = false → (w.heap.size ≤ (β2 id).blk ∨ ∃ xs, x = some xs ∧ (γ xs).nil = false ∧ (β2 id).blk = (γ xs).blk) := fun hn => h2.own id e' hid hn
  have hv := h2.slots d hdn
  have hgd : (a.put (some d) v).tmps.getD d undef = v := by simp [Act.put, h.size, hdn]
  have hY' : ∀ i e, effY Y d x e' i = some e → (i = d ∧ e = e') ∨ (i ≠ d ∧ x ≠ some i ∧ Y i = some e) := by
    intro i e he
    unfold effY at he
    split at he
    · rename_i hi; cases he; exact .inl ⟨hi, rfl⟩
    · rename_i hi
      split at he
      · cases he
      · rename_i hxi; exact .inr ⟨hi, hxi, he⟩
  have hother : ∀ i e, Y i = some e → x ≠ some i → (γ i).nil = false → ¬ ∃ xs, x = some xs ∧ (γ xs).nil = false ∧ (γ i).blk = (γ xs).blk := by
    rintro i e he hxi hn ⟨xs, hxs, hnx, heq⟩
    have := hp.inj i xs (by rw [he]; rfl) (hx xs hxs) hn hnx heq
    exact hxi (this ▸ hxs)
  have fresh : ∀ b, b < w.heap.size → (¬ ∃ xs, x = some xs ∧ (γ xs).nil = false ∧ b = (γ xs).blk) → (β2 id).nil = false → (β2 id).blk ≠ b := by
    intro b hb hnx hn heq
    rcases hnew hn with g | ⟨xs, hxs, hnx', heq'⟩
    · omega
    · exact hnx ⟨xs, hxs, hnx', by rw [← heq]; exact heq'⟩
  refine ⟨fun b => Im b ∨ Im2 b, β, upd γ d (β2 id), hbase.put hdn (by simp [Rv, Rc]), ?_⟩
  refine { lt := ?_, flat := ?_, ent := ?_, val := ?_, own := ?_, disj := ?_, inj := ?_ }
  · intro i e he
    rcases hY' i e he with ⟨rfl, _⟩ | ⟨_, _, hy⟩
    · exact ⟨hdn, hM⟩
    · exact hp.lt i e hy
  · intro i e he
    rcases hY' i e he with ⟨_, rfl⟩ | ⟨_, _, hy⟩
    · exact hf
    · exact hp.flat i e hy
  · intro i e he
    rcases hY' i e he with ⟨rfl, rfl⟩ | ⟨hi, hxi, hy⟩
    · rw [upd_same]
      refine EntOk_cl hf hent (fun _ => rfl) (fun hn him => ?_) (fun _ _ _ => rfl) (fun _ hb => .inr hb)
      rcases him with him | him
      rotate_left
      · exact (EntOk_blk hent hn).2 him
      rcases hnew hn with g | ⟨xs, hxs, hnx, heq⟩
      · have := h.im _ him; omega
      · obtain ⟨e, he⟩ := Option.isSome_iff_exists.1 (hx xs hxs)
        exact (EntOk_blk (hp.ent xs e he) hnx).2 (heq ▸ him)
    · rw [upd_ne _ _ hi]
      refine EntOk_cl (hp.flat i e hy) (hp.ent i e hy) (fun hn => hblock _ (EntOk_blk (hp.ent i e hy) hn).1 (hother i e hy hxi hn)) (fun hn him => ?_) hcI (fun _ hb => .inl hb)
      rcases him with him | him
      · exact (EntOk_blk (hp.ent i e hy) hn).2 him
      · rcases himo _ him with g | g | g
        · exact (EntOk_blk (hp.ent i e hy) hn).2 g
        · have := (EntOk_blk (hp.ent i e hy) hn).1; omega
        · exact hother i e hy hxi hn g
  · intro i e he
    rcases hY' i e he with ⟨rfl, rfl⟩ | ⟨hi, hxi, hy⟩
    · rw [upd_same, hgd]
      rw [hgd, hσ] at hv
      cases e with
      | row rows =>
        simp only [pv, Rv, hid, Option.bind_some, Ent.len, Option.some.injEq] at hv
        obtain ⟨m, rfl, hv⟩ := hv
        exact hv
      | box cells =>
        simp only [pv, Rv] at hv
        exact ⟨hv.2.1, by simpa using hv.2.2⟩
    · rw [upd_ne _ _ hi, getD_put hi]
      exact hp.val i e hy
  · intro i e he hn
    rcases hY' i e he with ⟨rfl, rfl⟩ | ⟨hi, hxi, hy⟩
    · rw [upd_same] at hn ⊢
      rcases hnew hn with g | ⟨xs, hxs, hnx, heq⟩
      · exact Nat.le_trans h.base g
      · obtain ⟨e2, he2⟩ := Option.isSome_iff_exists.1 (hx xs hxs)
        rw [heq]; exact hp.own xs e2 he2 hnx
    · rw [upd_ne _ _ hi] at hn ⊢
      exact hp.own i e hy hn
  · intro i e id2 e2 he he2 hn hn2
    rcases hY' i e he with ⟨rfl, rfl⟩ | ⟨hi, hxi, hy⟩
    · rw [upd_same] at hn ⊢
      refine fresh _ (h.blk_lt he2 hn2) ?_ hn
      rintro ⟨xs, hxs, hnx, heq⟩
      obtain ⟨e3, he3⟩ := Option.isSome_iff_exists.1 (hx xs hxs)
      exact hp.disj xs e3 id2 e2 he3 he2 hnx hn2 heq.symm
    · rw [upd_ne _ _ hi] at hn ⊢
      exact hp.disj i e id2 e2 hy he2 hn hn2
  · intro i j hi hj hni hnj heq
    obtain ⟨e1, he1⟩ := Option.isSome_iff_exists.1 hi
    obtain ⟨e2, he2⟩ := Option.isSome_iff_exists.1 hj
    rcases hY' i e1 he1 with ⟨rfl, _⟩ | ⟨hi', hxi, hy⟩ <;> rcases hY' j e2 he2 with ⟨hj', _⟩ | ⟨hj', hxj, hy2⟩
    · exact hj'.symm
    · rw [upd_same] at hni heq
      rw [upd_ne _ _ hj'] at hnj heq
      exact absurd heq (fresh _ (EntOk_blk (hp.ent j e2 hy2) hnj).1 (hother j e2 hy2 hxj hnj) hni)
    · subst hj'
      rw [upd_same] at hnj heq
      rw [upd_ne _ _ hi'] at hni heq
      exact absurd heq.symm (fresh _ (EntOk_blk (hp.ent i e1 hy) hni).1 (hother i e1 hy hxi hni) hnj)
    · rw [upd_ne _ _ hi'] at hni heq
      rw [upd_ne _ _ hj'] at hnj heq
      exact hp.inj i j (by rw [hy]; rfl) (by rw [hy2]; rfl) hni hnj heq

def realS (σ : Slots) (Y : Prv) : Slots := fun i => match Y i with | some e => pv i e | none => σ i
def realM (M : Tab) (Y : Prv) : Tab := fun j => match Y j with | some e => some e | none => M j
theorem StX.real {Y : Prv} (hX : StX B0 X I0 w0 n σ M Y a w) (h9 : n ≤ 900) : St B0 X I0 w0 n (realS σ Y) (realM M Y) a w := by
  obtain ⟨Im, β, γ, h, hp⟩ := hX
  let β' : Nat → RowG := fun j => match Y j with | some _ => γ j | none => β j
  have hb1 : ∀ j e, Y j = some e → β' j = γ j := fun j e hj => by simp [β', hj]
  have hb0 : ∀ j, Y j = none → β' j = β j := fun j hj => by simp [β', hj]
  have hMY : ∀ id, (M id).isSome = true → Y id = none := by
    intro id hs
    cases hy : Y id with
    | none => rfl
    | some e => rw [(hp.lt id e hy).2] at hs; cases hs
  have hag : Agree β β' M (realM M Y) := by
    intro id hs
    have hy := hMY id hs
    exact ⟨hb0 id hy, by simp [realM, hy, hs], by simp [realM, hy]⟩
  have hget : ∀ {j e}, realM M Y j = some e → Y j = some e ∨ (Y j = none ∧ M j = some e) := by
    intro j e hj
    unfold realM at hj
    split at hj
    · rename_i e1 hy; cases hj; exact .inl hy
    · rename_i hy; exact .inr ⟨hy, hj⟩
  refine ⟨Im, β', { defers := h.defers, size := h.size, slots := ?_, hi := ?_, im := h.im, tab := ?_, own := ?_, inj := ?_, base := h.base, fr := h.fr, imo := h.imo, pin := ?_, small := h.small }⟩
  · intro i hi
    unfold realS
    split
    · rename_i e hy
      have hv := hp.val i e hy
      cases e with
      | row rows => simp only [pv, Rv]; exact ⟨rows.length, by simp [realM, hy, Ent.len], by rw [hb1 i _ hy]; exact hv⟩
      | box cells => simp only [pv, Rv]; exact ⟨by simp [realM, hy], by rw [hb1 i _ hy]; exact hv.1, by rw [hb1 i _ hy]; simpa using hv.2⟩
    · exact Rv_mono (fun _ _ _ => rfl) (fun _ hb => hb) hag _ _ (h.slots i hi)
  · intro i hi
    unfold realS
    split
    · rename_i e hy; have := (hp.lt i e hy).1; omega
    · exact h.hi i hi
  · intro j e hj
    rcases hget hj with hy | ⟨hy, hm⟩
    · rw [hb1 j e hy]
      exact EntOk_cl (hp.flat j e hy) (hp.ent j e hy) (fun _ => rfl) (fun hn => (EntOk_blk (hp.ent j e hy) hn).2) (fun _ _ _ => rfl) (fun _ hb => hb)
    · rw [hb0 j hy]
      exact EntOk_mono (fun _ _ _ => rfl) (fun _ hb => hb) hag (fun hn => h.not_im hm hn) (fun _ => rfl) e (h.tab j e hm)
  · intro j e hj hn
    rcases hget hj with hy | ⟨hy, hm⟩
    · rw [hb1 j e hy] at hn ⊢; exact .inl (hp.own j e hy hn)
    · rw [hb0 j hy] at hn ⊢; exact h.own j e hm hn
  · intro i j hi hj hni hnj heq
    obtain ⟨e1, he1⟩ := Option.isSome_iff_exists.1 hi
    obtain ⟨e2, he2⟩ := Option.isSome_iff_exists.1 hj
    rcases hget he1 with hy | ⟨hy, hm⟩ <;> rcases hget he2 with hy2 | ⟨hy2, hm2⟩
    · rw [hb1 i _ hy] at hni heq; rw [hb1 j _ hy2] at hnj heq
      exact hp.inj i j (by rw [hy]; rfl) (by rw [hy2]; rfl) hni hnj heq
    · rw [hb1 i _ hy] at hni heq; rw [hb0 j hy2] at hnj heq
      exact absurd heq (hp.disj i e1 j e2 hy hm2 hni hnj)
    · rw [hb0 i hy] at hni heq; rw [hb1 j _ hy2] at hnj heq
      exact absurd heq.symm (hp.disj j e2 i e1 hy2 hm hnj hni)
    · rw [hb0 i hy] at hni heq; rw [hb0 j hy2] at hnj heq
      exact h.inj i j (by rw [hm]; rfl) (by rw [hm2]; rfl) hni hnj heq
  · intro id g hg
    have hy : Y id = none := by
      cases hy : Y id with
      | none => rfl
      | some e =>
        have := (hp.lt id e hy).1
        rw [X.lo id (.inl (by omega))] at hg
        cases hg
    rw [hb0 id hy]
    exact h.pin id g hg
end
end Go.Proofs.YtmiclkgkfkcnoaaGreat

/- Drawn regions with private effects: one walk in the text's order serves every order. -/
namespace Go.Proofs.YtmiclkgkfkcnoaaGreat
open Go.RowKit

/-! ### whatever steps commute -/
structure Mach (S Δ : Type) (ops : Array Oper) where
  Y : Oper → Δ → S → Prop
  put : S → Oper → Δ → S
  comm : ∀ oi oj, oi.apart ops oj = true → ∀ δi δj s, Y oi δi s → Y oj δj (put s oi δi) → Y oj δj s ∧ Y oi δi (put s oj δj) ∧ put (put s oi δi) oj δj = put (put s oj δj) oi δi

section
variable {S Δ : Type} {ops : Array Oper} {md : Region.Mode}
def gOp (m : Mach S Δ ops) (i : Nat) (K : S → Prop) (s : S) : Prop :=
  match ops[i]? with
  | none => K s
  | some o => ∃ δ, m.Y o δ s ∧ K (m.put s o δ)
def gAnyL (m : Mach S Δ ops) (md : Region.Mode) (c : Nat) (L : Array Bool → S → Prop) : Nat → Array Bool → S → Prop
  | 0, listed, s => L listed s
  | f + 1, listed, s => Region.ready md ops listed ≠ [] ∧ ∀ i ∈ Region.ready md ops listed, i < c ∧ gOp m i (gAnyL m md c L f (listed.setIfInBounds i true)) s
def gOps (m : Mach S Δ ops) : List Oper → S → (S → Prop) → Prop
  | [], s, K => K s
  | o :: rest, s, K => ∃ δ, m.Y o δ s ∧ gOps m rest (m.put s o δ) K

variable {m : Mach S Δ ops}
theorem gOp_mono {i : Nat} {s : S} {K K' : S → Prop} (h : ∀ s, K s → K' s) (hh : gOp m i K s) : gOp m i K' s := by
  unfold gOp at *
  split
  · rename_i ho; simp only [ho] at hh; exact h _ hh
  · rename_i o ho; simp only [ho] at hh; obtain ⟨d, h1, h2⟩ := hh; exact ⟨d, h1, h _ h2⟩
theorem gOp_put {j : Nat} {oi oj : Oper} {δ : Δ} (hj : ops[j]? = some oj) (hap : oi.apart ops oj = true) {K : S → Prop} {s : S}
    (hy : m.Y oi δ s) (h : gOp m j K (m.put s oi δ)) : gOp m j (fun s' => m.Y oi δ s' ∧ K (m.put s' oi δ)) s := by
  unfold gOp at *
  simp only [hj] at *
  obtain ⟨e, g1, g2⟩ := h
  obtain ⟨h1, h2, h3⟩ := m.comm oi oj hap δ e s hy g1
  exact ⟨e, h1, h2, by rw [← h3]; exact g2⟩
theorem gOp_now {i : Nat} {oi : Oper} {δ : Δ} (hi : ops[i]? = some oi) {s : S} {K : S → Prop} (hy : m.Y oi δ s) (hk : K (m.put s oi δ)) : gOp m i K s := by
  unfold gOp; simp only [hi]; exact ⟨δ, hy, hk⟩

theorem gAnyL_first {c q i : Nat} {oi : Oper} {δ : Δ} {L : Array Bool → S → Prop} (hi : ops[i]? = some oi)
    (hs : Region.sinkB md ops c = true) (hc : chainQ md ops c q = true) (hq : q ≠ c) (hn : c < ops.size) (hin : i < c)
    (hdone : ∀ listed s, L listed s → ∀ j ∈ Region.ready md ops listed, c ≤ j) :
    ∀ (f : Nat) (listed : Array Bool) (s : S), HeadQ md ops c q listed →
      (∀ j oj, ops[j]? = some oj → j ≠ i → listed.getD j true = false → (∀ e ∈ oj.after, Region.binds md e = true → e.on ≠ i) → oi.apart ops oj = true) →
      i ∈ Region.ready md ops listed → m.Y oi δ s →
      gAnyL m md c L f (listed.setIfInBounds i true) (m.put s oi δ) → gAnyL m md c L (f + 1) listed s := by
  intro f
  induction f with
  | zero =>
    intro listed s inv _ hr hy H
    have hun := (mem_ready.1 hr).1
    refine ⟨fun h => (by rw [h] at hr; cases hr), fun j hj => ?_⟩
    have hjn : j < c := by
      rcases Nat.lt_or_ge j c with h | h
      · exact h
      · exact absurd hj (tail_waitsQ hs hc hq hn inv _ i rfl hin hun j h)
    refine ⟨hjn, ?_⟩
    by_cases hji : j = i
    · subst hji; exact gOp_now hi hy H
    · have := hdone _ _ H j (ready_mono hj hji)
      omega
  | succ f ih =>
    intro listed s inv hfree hr hy H
    have hun := (mem_ready.1 hr).1
    refine ⟨fun h => (by rw [h] at hr; cases hr), fun j hj => ?_⟩
    have hjn : j < c := by
      rcases Nat.lt_or_ge j c with h | h
      · exact h
      · exact absurd hj (tail_waitsQ hs hc hq hn inv _ i rfl hin hun j h)
    refine ⟨hjn, ?_⟩
    by_cases hji : j = i
    · subst hji; exact gOp_now hi hy H
    · have h1 := (H.2 j (ready_mono hj hji)).2
      obtain ⟨hjun, oj, hoj, hall⟩ := mem_ready.1 hj
      have hnot : ∀ e ∈ oj.after, Region.binds md e = true → e.on ≠ i := fun e he hb heq => by
        have h1 := hall e he hb
        rw [heq, getD_both hun] at h1
        cases h1
      have h2 := gOp_put hoj (hfree j oj hoj hji hjun hnot) hy h1
      have hfree' : ∀ k ok, ops[k]? = some ok → k ≠ i → (listed.setIfInBounds j true).getD k true = false →
          (∀ e ∈ ok.after, Region.binds md e = true → e.on ≠ i) → oi.apart ops ok = true := fun k ok hk hki hun hno => by
        refine hfree k ok hk hki ?_ hno
        by_cases hjk : j = k
        · subst hjk; exact hjun
        · rw [getD_set_ne true hjk] at hun; exact hun
      refine gOp_mono (fun s' h3 => ih (listed.setIfInBounds j true) s' (inv.set hj hjn) hfree' (ready_mono hr (Ne.symm hji)) h3.1 ?_) h2
      rw [Array.setIfInBounds_comm _ _ hji]
      exact h3.2
theorem gAnyL_lex {c q : Nat} {js : List Nat} {Lq : S → Prop} (hs : Region.sinkB md ops c = true) (hc : chainQ md ops c q = true) (hq : q ≠ c) (hn : c < ops.size) (hjs : ∀ j ∈ js, c ≤ j) :
    ∀ (l : List Oper) (k : Nat) (listed : Array Bool) (s : S), (∀ j, j < l.length → l[j]? = ops[k + j]?) → k + l.length = c → HeadQ md ops c q listed →
    lexHeadQ md ops js l.length k listed = true → gOps m l s Lq →
    gAnyL m md c (fun listed' s' => (seqL md ops js listed' = true ∧ ∀ j ∈ Region.ready md ops listed', c ≤ j) ∧ Lq s') l.length listed s
  | [], k, listed, s, _, hk, _, hB, h => by
    simp only [List.length_nil, lexHeadQ, Bool.and_eq_true] at hB
    refine ⟨⟨hB.1, fun j hj => ?_⟩, h⟩
    have := List.all_eq_true.1 hB.2 j hj
    exact hjs j (by simpa using this)
  | o :: l, k, listed, s, hl, hk, inv, hB, h => by
    have h0 : ops[k]? = some o := by simpa using (hl 0 (by simp)).symm
    simp only [List.length_cons, lexHeadQ, Bool.and_eq_true] at hB
    obtain ⟨⟨hr, hf⟩, hB'⟩ := hB
    have hkn : k < c := by simp only [List.length_cons] at hk; omega
    have hr' : k ∈ Region.ready md ops listed := by simpa using hr
    obtain ⟨d, hy, hK⟩ := h
    exact gAnyL_first h0 hs hc hq hn hkn (fun listed' s' hL => hL.1.2) l.length listed s inv (Region.free_spec h0 hf) hr' hy
      (gAnyL_lex hs hc hq hn hjs l (k + 1) _ _ (fun j hj => by have := hl (j + 1) (by simp; omega); simpa [Nat.add_assoc, Nat.add_comm 1 j] using this) (by simp only [List.length_cons] at hk; omega) (inv.set hr' hkn) hB' hK)
end

theorem flat_app {a b : List (List D)} (ha : FlatRows a) (hb : FlatRows b) : FlatRows (a ++ b) := fun r hr d hd => (List.mem_append.1 hr).elim (fun h => ha r h d hd) (fun h => hb r h d hd)

/-! ### the machine of reading and private effects -/
def evV (M : Tab) (σ : Slots) : Operand → D := ev fun i => vw M (σ i)
def effQ (P : Program) (M : Tab) (σ : Slots) (Y : Prv) (op : Op) (x : Option Nat) (e : Ent) : Prop :=
  match op with
  | .alloc t => x = none ∧ (tI P t).zero ≠ [] ∧ (tI P t).zero.all one = true ∧ e = .box (tI P t).zero
  | .buildSlice t len parts =>
    match (tI P t).d with
    | .slice _ es _ ez => x = none ∧ es ≠ 0 ∧ ez.length = es ∧ len = parts.size ∧ len * es ≤ 16777216 ∧ partsQ es 0 (parts.toList.map fun p => (p.1, evV M σ p.2)) fun rows => e = .row rows
    | _ => False
  | .call c =>
    match c.callee with
    | .builtin .append =>
      match c.args.toList, c.argTypes.toList with
      | [xo, yo], [t, t'] =>
        match (tI P t).d with
        | .slice _ es eb ez => t' = t ∧ es ≠ 0 ∧ ez.length = es ∧ ez.all one = true ∧ ∃ news, rowsOf (fun _ => none) (evV M σ yo) = some news ∧ RowLen news es ∧
            match x with
            | some xs => xo = .tmp xs ∧ yo ≠ .tmp xs ∧ ∃ rows, Y xs = some (.row rows) ∧ RowLen rows es ∧ (rows.length + news.length) * eb ≤ 140737488355328 ∧ rows.length + news.length ≤ 9223372036854775807 ∧ e = .row (rows ++ news)
            | none => evV M σ xo = .nl ∧ news.length * eb ≤ 140737488355328 ∧ news.length ≤ 9223372036854775807 ∧ e = .row news
        | _ => False
      | _, _ => False
    | .value (.func f) => x = none ∧ ∃ rows, ACall P f (viewL (fun _ => none) (c.args.toList.map (evV M σ))) (.fs 0) [rows] ∧ e = .row rows
    | _ => False
  | _ => False

section
variable {P : Program} {n : Nat} {M : Tab} {ops : Array Oper} {σ : Slots} {Y : Prv}

theorem evV_congr {σ' : Slots} {o : Operand} (h : ∀ t, o = .tmp t → σ t = σ' t) : evV M σ o = evV M σ' o := by
  cases o with
  | tmp t => simp only [evV, ev]; rw [h t rfl]
  | _ => rfl
theorem effQ_congr {σ' : Slots} {Y' : Prv} {op : Op} {x : Option Nat} {e : Ent} (h : ∀ t, Operand.tmp t ∈ op.operands → σ t = σ' t) (hY : ∀ xs, x = some xs → Y xs = Y' xs) (hq : effQ P M σ Y op x e) : effQ P M σ' Y' op x e := by
  have key : ∀ o, o ∈ op.operands → evV M σ o = evV M σ' o := fun o ho => evV_congr fun t ht => h t (ht ▸ ho)
  unfold effQ at *
  split
  · exact hq
  · rename_i t len parts
    simp only at hq
    have e1 : (parts.toList.map fun p => (p.1, evV M σ p.2)) = parts.toList.map fun p => (p.1, evV M σ' p.2) := by
      refine List.map_congr_left fun p hp => ?_
      rw [key p.2 (by simp only [Op.operands]; exact List.mem_toArray.2 (List.mem_map.2 ⟨p, hp, rfl⟩))]
    rw [e1] at hq
    exact hq
  · rename_i c
    simp only at hq
    split
    · rename_i hcal
      simp only [hcal] at hq
      split
      · rename_i xo yo t t' ha ht
        simp only [ha, ht] at hq
        have hxo : xo ∈ (Op.call c).operands := by
          have : xo ∈ c.args := by rw [← Array.mem_toList_iff, ha]; simp
          simp only [Op.operands, Call.operands, hcal]; simpa using this
        have hyo : yo ∈ (Op.call c).operands := by
          have : yo ∈ c.args := by rw [← Array.mem_toList_iff, ha]; simp
          simp only [Op.operands, Call.operands, hcal]; simpa using this
        rw [key xo hxo, key yo hyo] at hq
        split
        · rename_i hd
          simp only [hd] at hq
          obtain ⟨g0, g1, g2, g3, news, g4, g5, g6⟩ := hq
          refine ⟨g0, g1, g2, g3, news, g4, g5, ?_⟩
          split
          · rename_i xs
            simp only at g6
            rw [← hY xs rfl]; exact g6
          · exact g6
        · rename_i hne
          split at hq
          · rename_i hd; exact absurd hd (hne _ _ _ _)
          · exact hq
      · rename_i hne
        split at hq
        · rename_i h1 h2; exact absurd h2 (hne _ _ _ _ h1)
        · exact hq
    · rename_i f hcal
      simp only [hcal] at hq
      have e1 : c.args.toList.map (evV M σ) = c.args.toList.map (evV M σ') := by
        refine List.map_congr_left fun o ho => key o ?_
        have : o ∈ c.args := by simpa using ho
        simp only [Op.operands, Call.operands]; simp [this]
      rw [e1] at hq
      exact hq
    · rename_i h1 h2
      split at hq
      · rename_i hc; exact absurd hc h1
      · rename_i hc; exact absurd hc (h2 _)
      · exact hq
  · rename_i h1 h2 h3
    split at hq
    · exact absurd rfl (h1 _)
    · exact absurd rfl (h2 _ _ _)
    · exact absurd rfl (h3 _)
    · exact hq

theorem mini_evV {x : Option Nat} {o : Operand} (h : ∀ t, o = .tmp t → x ≠ some t) : ev (miniS M σ Y x) o = evV M σ o := by
  cases o with
  | tmp t => simp only [evV, ev, miniS]; rw [if_neg (h t rfl)]
  | _ => rfl
theorem rowsOf_none {M' : Tab} {d : D} {rows : List (List D)} (h : rowsOf (fun _ => none) d = some rows) : rowsOf M' d = some rows := by
  cases d <;> simp [rowsOf] at h ⊢ <;> exact h

theorem effQ_stp {d : Nat} {op : Op} {x : Option Nat} {e : Ent} (hd : d < n) (hx9 : ∀ xs, x = some xs → xs < 900) (hf : flatE e) (hq : effQ P M σ Y op x e) :
    stp P n (some d) op (miniS M σ Y x) (miniT Y x) fun σ' M' => ∃ id, M' id = some e ∧ σ' d = pv id e := by
  unfold effQ at hq
  split at hq
  · rename_i t
    obtain ⟨rfl, h1, h2, rfl⟩ := hq
    simp only [stp]
    exact ⟨hd, h1, h2, d, by simp [upd_same], by simp [upd_same, pv]⟩
  · rename_i t len parts
    split at hq
    · rename_i ee es eb ez htd
      obtain ⟨rfl, h1, h2, h3, h4, h5⟩ := hq
      simp only [stp, htd]
      refine ⟨hd, h1, h2, h3, h4, ?_⟩
      have e1 : (parts.toList.map fun p => (p.1, ev (miniS M σ Y none) p.2)) = parts.toList.map fun p => (p.1, evV M σ p.2) :=
        List.map_congr_left fun p _ => by rw [mini_evV (fun _ _ hh => by cases hh)]
      rw [e1]
      exact partsQ_ex.partsQ_mono (fun rows hr => ⟨d, by simp [upd_same, hr], by simp [upd_same, hr, pv]⟩) _ _ h5
    · exact hq.elim
  · rename_i c
    split at hq
    · rename_i hcal
      split at hq
      · rename_i xo yo t t' ha ht
        split at hq
        · rename_i ee es eb ez htd
          obtain ⟨rfl, h1, h2, h3, news, h4, h5, h6⟩ := hq
          simp only [stp, hcal, ha, ht, appendQ, htd]
          refine ⟨hd, trivial, h1, h2, h3, news, ?_, h5, ?_⟩
          · cases x with
            | none => rw [mini_evV (fun _ _ hh => by cases hh)]; exact rowsOf_none h4
            | some xs =>
              simp only at h6
              rw [mini_evV (fun t ht hh => h6.2.1 (by cases hh; exact ht))]; exact rowsOf_none h4
          · cases x with
            | none =>
              simp only at h6
              obtain ⟨g1, g2, g3, rfl⟩ := h6
              rw [mini_evV (fun _ _ hh => by cases hh), g1]
              exact ⟨g2, g3, d, by simp [upd_same], by simp [upd_same, pv]⟩
            | some xs =>
              simp only at h6
              obtain ⟨rfl, g2, rows, g3, g4, g5, g6, rfl⟩ := h6
              have e1 : ev (miniS M σ Y (some xs)) (.tmp xs) = .fs xs := by simp [ev, miniS, g3, pv]
              rw [e1]
              exact ⟨.inl (hx9 xs rfl), rows, by simp [miniT, g3], g4, g5, g6, xs, by simp [upd_same], by simp [upd_same, pv]⟩
        · exact hq.elim
      · exact hq.elim
    · rename_i f hcal
      obtain ⟨rfl, rows, h1, rfl⟩ := hq
      simp only [stp, hcal]
      refine ⟨hd, .inl ⟨.fs 0, [rows], ⟨?_, rfl, .inr ⟨rfl, by intro r hr; rw [List.mem_singleton.1 hr]; exact hf⟩⟩, rid d 0, ?_, ?_⟩⟩
      · have e1 : c.args.toList.map (ev (miniS M σ Y none)) = c.args.toList.map (evV M σ) := List.map_congr_left fun o _ => mini_evV (fun _ _ hh => by cases hh)
        have e2 : miniT Y none = fun _ => none := by funext j; simp [miniT]
        rw [e1, e2]; exact h1
      · simp [addM, upd_same]
      · simp [ren, upd_same, pv]
    · exact hq.elim
  · exact hq.elim

theorem mini_evV2 {x : Option Nat} {o : Operand} (h : ∀ t, o = .tmp t → x ≠ some t) (hn : ∀ t, o = .tmp t → noFs (σ t) = true) : ev (miniS2 M σ Y x) o = evV M σ o := by
  cases o with
  | tmp t => simp only [evV, ev, miniS2]; rw [if_neg (h t rfl), if_pos (hn t rfl)]
  | _ => rfl
theorem cD_noFs (v : Value) : noFs (cD v) = true := by
  unfold cD; split <;> rfl
mutual
theorem view_noFs : ∀ (d : D), noFs d = true → noFs (view M d) = true
  | .int .., _ | .bool _, _ | .str _, _ | .nov, _ | .any, _ | .nl, _ | .ptr .., _ | .sl _, _ | .ep .., _ => by simp [view, noFs]
  | .fs _, h => by simp [noFs] at h
  | .fp .., h => by simp [noFs] at h
  | .agg cs, h => by simp only [view, noFs] at h ⊢; exact viewL_noFs cs h
  | .tup cs, h => by simp only [view, noFs] at h ⊢; exact viewL_noFs cs h
theorem viewL_noFs : ∀ (ds : List D), noFsL ds = true → noFsL (viewL M ds) = true
  | [], _ => by simp [viewL, noFsL]
  | d :: ds, h => by
    simp only [noFsL, viewL, Bool.and_eq_true] at h ⊢
    exact ⟨view_noFs d h.1, viewL_noFs ds h.2⟩
end
theorem vw_noFs {d : D} (h : noFs d = true) : noFs (vw M d) = true := by
  unfold vw
  split
  · exact h
  · exact view_noFs _ h
theorem evV_noFsL : ∀ (l : List Operand), (∀ o, o ∈ l → ∀ t, o = .tmp t → noFs (σ t) = true) → noFsL (l.map (evV M σ)) = true
  | [], _ => rfl
  | o :: l, h => by
    simp only [List.map_cons, noFsL, Bool.and_eq_true]
    refine ⟨?_, evV_noFsL l fun o' ho' => h o' (by simp [ho'])⟩
    cases o with
    | tmp t => exact vw_noFs (h _ (by simp) t rfl)
    | const v => exact cD_noFs v
    | _ => rfl
theorem effQ_stp2 {d : Nat} {op : Op} {x : Option Nat} {e : Ent} (hd : d < n) (hx9 : ∀ xs, x = some xs → xs < 900) (hc : ∀ t, Operand.tmp t ∈ op.operands → x ≠ some t → noFs (σ t) = true) (hq : effQ P M σ Y op x e) :
    stp P n (some d) op (miniS2 M σ Y x) (miniT Y x) fun σ' M' => ∃ id, M' id = some e ∧ σ' d = pv id e := by
  unfold effQ at hq
  split at hq
  · rename_i t
    obtain ⟨rfl, h1, h2, rfl⟩ := hq
    simp only [stp]
    exact ⟨hd, h1, h2, d, by simp [upd_same], by simp [upd_same, pv]⟩
  · rename_i t len parts
    split at hq
    · rename_i ee es eb ez htd
      obtain ⟨rfl, h1, h2, h3, h4, h5⟩ := hq
      simp only [stp, htd]
      refine ⟨hd, h1, h2, h3, h4, ?_⟩
      have e1 : (parts.toList.map fun p => (p.1, ev (miniS2 M σ Y none) p.2)) = parts.toList.map fun p => (p.1, evV M σ p.2) :=
        List.map_congr_left fun p hp => by
          rw [mini_evV2 (fun _ _ hh => by cases hh) fun t ht => hc t (by rw [← ht]; simp only [Op.operands]; exact List.mem_toArray.2 (List.mem_map.2 ⟨p, hp, rfl⟩)) (fun hh => by cases hh)]
      rw [e1]
      exact partsQ_ex.partsQ_mono (fun rows hr => ⟨d, by simp [upd_same, hr], by simp [upd_same, hr, pv]⟩) _ _ h5
    · exact hq.elim
  · rename_i c
    split at hq
    · rename_i hcal
      split at hq
      · rename_i xo yo t t' ha ht
        split at hq
        · rename_i ee es eb ez htd
          obtain ⟨rfl, h1, h2, h3, news, h4, h5, h6⟩ := hq
          simp only [stp, hcal, ha, ht, appendQ, htd]
          have hyo : yo ∈ (Op.call c).operands := by
            have : yo ∈ c.args := by rw [← Array.mem_toList_iff, ha]; simp
            simp only [Op.operands, Call.operands, hcal]; simpa using this
          have hxo : xo ∈ (Op.call c).operands := by
            have : xo ∈ c.args := by rw [← Array.mem_toList_iff, ha]; simp
            simp only [Op.operands, Call.operands, hcal]; simpa using this
          refine ⟨hd, trivial, h1, h2, h3, news, ?_, h5, ?_⟩
          · cases x with
            | none => rw [mini_evV2 (fun _ _ hh => by cases hh) fun t ht => hc t (by rw [← ht]; exact hyo) (fun hh => by cases hh)]; exact rowsOf_none h4
            | some xs =>
              simp only at h6
              have hne : ∀ t, yo = .tmp t → (some xs : Option Nat) ≠ some t := fun t ht hh => h6.2.1 (by cases hh; exact ht)
              rw [mini_evV2 hne fun t ht => hc t (by rw [← ht]; exact hyo) (hne t ht)]; exact rowsOf_none h4
          · cases x with
            | none =>
              simp only at h6
              obtain ⟨g1, g2, g3, rfl⟩ := h6
              rw [mini_evV2 (fun _ _ hh => by cases hh) fun t ht => hc t (by rw [← ht]; exact hxo) (fun hh => by cases hh), g1]
              exact ⟨g2, g3, d, by simp [upd_same], by simp [upd_same, pv]⟩
            | some xs =>
              simp only at h6
              obtain ⟨rfl, g2, rows, g3, g4, g5, g6, rfl⟩ := h6
              have e1 : ev (miniS2 M σ Y (some xs)) (.tmp xs) = .fs xs := by simp [ev, miniS2, g3, pv]
              rw [e1]
              exact ⟨.inl (hx9 xs rfl), rows, by simp [miniT, g3], g4, g5, g6, xs, by simp [upd_same], by simp [upd_same, pv]⟩
        · exact hq.elim
      · exact hq.elim
    · rename_i f hcal
      obtain ⟨rfl, rows, h1, rfl⟩ := hq
      simp only [stp, hcal]
      have hop : ∀ o, o ∈ c.args.toList → ∀ t, o = .tmp t → noFs (σ t) = true := fun o ho t ht => hc t (by
        have : o ∈ c.args := Array.mem_toList_iff.1 ho
        rw [← ht]; simp only [Op.operands, Call.operands]; simp [this]) (fun hh => by cases hh)
      refine ⟨hd, .inl ⟨.fs 0, [rows], ⟨?_, rfl, .inl ?_⟩, rid d 0, ?_, ?_⟩⟩
      · have e1 : c.args.toList.map (ev (miniS2 M σ Y none)) = c.args.toList.map (evV M σ) := List.map_congr_left fun o ho => mini_evV2 (fun _ _ hh => by cases hh) (hop o ho)
        have e2 : miniT Y none = fun _ => none := by funext j; simp [miniT]
        rw [e1, e2]; exact h1
      · have e1 : c.args.toList.map (ev (miniS2 M σ Y none)) = c.args.toList.map (evV M σ) := List.map_congr_left fun o ho => mini_evV2 (fun _ _ hh => by cases hh) (hop o ho)
        rw [e1]
        exact evV_noFsL c.args.toList hop
      · simp [addM, upd_same]
      · simp [ren, upd_same, pv]
    · exact hq.elim
  · exact hq.elim

def okE (σ : Slots) (op : Op) (x : Option Nat) (e : Ent) : Prop := flatE e ∨ (flatB e ∧ ∀ t, Operand.tmp t ∈ op.operands → x ≠ some t → noFs (σ t) = true)
theorem okE_congr {σ' : Slots} {op : Op} {x : Option Nat} {e : Ent} (h : ∀ t, Operand.tmp t ∈ op.operands → σ t = σ' t) (hk : okE σ op x e) : okE σ' op x e :=
  hk.imp id fun ⟨h1, h2⟩ => ⟨h1, fun t ht hx => by rw [← h t ht]; exact h2 t ht hx⟩

inductive Dl where
  | q (d : D)
  | e (x : Option Nat) (en : Ent)

def EffA (P : Program) (n : Nat) (M : Tab) (ops : Array Oper) (o : Oper) (x : Option Nat) (e : Ent) (s : Slots × Prv) : Prop :=
  ∃ d, o.dst = some d ∧ o.guard = none ∧ d < n ∧ s.2 d = none ∧ M d = none ∧ okE s.1 o.op x e ∧ (∀ xs, x = some xs → (s.2 xs).isSome = true ∧ xs < 900 ∧ xs ∈ o.looksAt ops) ∧ effQ P M s.1 s.2 o.op x e
def YX (P : Program) (n : Nat) (M : Tab) (ops : Array Oper) (o : Oper) (δ : Dl) (s : Slots × Prv) : Prop :=
  match δ with
  | .q d => YA P n M ops o d s.1 ∧ ∀ t, o.dst = some t → s.2 t = none
  | .e x en => EffA P n M ops o x en s
def putX (s : Slots × Prv) (o : Oper) (δ : Dl) : Slots × Prv :=
  match δ with
  | .q d => (putA s.1 o.dst d, s.2)
  | .e x en => (putA s.1 o.dst .any, match o.dst with | some d => effY s.2 d x en | none => s.2)

theorem looks_of_operand {o : Oper} {t : Nat} (h : Operand.tmp t ∈ o.op.operands) : t ∈ o.looksAt ops := by
  simp only [Oper.looksAt, List.mem_append, List.mem_filterMap]
  exact .inl ⟨.tmp t, Array.mem_toList_iff.2 h, rfl⟩
theorem putA_get {dst : Option Tmp} {d : D} {t : Nat} (h : dst ≠ some t) : putA σ dst d t = σ t := by
  cases dst with
  | none => rfl
  | some s => exact upd_ne _ _ (fun e => h (e ▸ rfl))
theorem effY_get {d : Nat} {x : Option Nat} {e : Ent} {j : Nat} (h1 : j ≠ d) (h2 : x ≠ some j) : effY Y d x e j = Y j := by simp [effY, h1, h2]

theorem EffA_put {oi oj : Oper} {δi : Dl} {x : Option Nat} {e : Ent} {s : Slots × Prv} (h1 : ∀ t, oi.dst = some t → t ∉ oj.looksAt ops) (h2 : ∀ t, oi.dst = some t → oj.dst ≠ some t) (h3 : ∀ t, oj.dst = some t → t ∉ oi.looksAt ops) (hy : YX P n M ops oi δi s) (h : EffA P n M ops oj x e (putX s oi δi)) :
    EffA P n M ops oj x e s ∧ ∀ xi ei, δi = .e xi ei → ∀ xs, x = some xs → xi ≠ some xs := by
  obtain ⟨d, hd, hg, hdn, hYd, hMd, hf, hx, hq⟩ := h
  cases δi with
  | q di =>
    simp only [putX] at hYd hx hq hf
    refine ⟨⟨d, hd, hg, hdn, hYd, hMd, okE_congr (fun t ht => putA_get fun hh => h1 t hh (looks_of_operand ht)) hf, hx, effQ_congr (fun t ht => putA_get fun hh => h1 t hh (looks_of_operand ht)) (fun _ _ => rfl) hq⟩, fun _ _ hh => by cases hh⟩
  | e xi ei =>
    simp only [YX] at hy
    obtain ⟨di, hdi, _, _, _, _, _, hxi, _⟩ := hy
    simp only [putX, hdi] at hYd hx hq hf
    have hddi : d ≠ di := fun hh => h2 di hdi (hh ▸ hd)
    have hxne : ∀ xs, x = some xs → xs ≠ di ∧ xi ≠ some xs := by
      intro xs hxs
      obtain ⟨g1, _, g3⟩ := hx xs hxs
      refine ⟨fun hh => h1 di hdi (hh ▸ g3), fun hh => ?_⟩
      have hne : xs ≠ di := fun hh => h1 di hdi (hh ▸ g3)
      simp [effY, hne, hh] at g1
    have hYx : ∀ xs, x = some xs → effY s.2 di xi ei xs = s.2 xs := fun xs hxs => effY_get (hxne xs hxs).1 (hxne xs hxs).2
    refine ⟨⟨d, hd, hg, hdn, ?_, hMd, okE_congr (fun t ht => upd_ne _ _ (fun hh => h1 di hdi (by rw [← hh]; exact looks_of_operand ht))) hf, ?_, effQ_congr (fun t ht => ?_) hYx hq⟩, fun _ _ hh xs hxs => by cases hh; exact (hxne xs hxs).2⟩
    · have hxd : xi ≠ some d := fun hh => h3 d hd (hxi d hh).2.2
      rwa [effY_get hddi hxd] at hYd
    · intro xs hxs
      have := hx xs hxs
      rwa [hYx xs hxs] at this
    · exact upd_ne _ _ (fun hh => h1 di hdi (hh ▸ looks_of_operand ht))

theorem YX_comm (oi oj : Oper) (hap : oi.apart ops oj = true) (δi δj : Dl) (s : Slots × Prv) (hy : YX P n M ops oi δi s) (hj : YX P n M ops oj δj (putX s oi δi)) :
    YX P n M ops oj δj s ∧ YX P n M ops oi δi (putX s oj δj) ∧ putX (putX s oi δi) oj δj = putX (putX s oj δj) oi δi := by
  obtain ⟨h1, h2, h3⟩ := Oper.apart_spec hap
  have h2' : ∀ t, oj.dst = some t → oi.dst ≠ some t := fun t ht hh => h2 t hh ht
  cases δi with
  | q di =>
    simp only [YX] at hy
    cases δj with
    | q dj =>
      simp only [YX, putX] at hj ⊢
      exact ⟨⟨(YA_put h1).1 hj.1, hj.2⟩, ⟨(YA_put h3).2 hy.1, hy.2⟩, by rw [putA_comm s.1 di dj h2]⟩
    | e xj ej =>
      have hE := (EffA_put h1 h2 h3 (δi := .q di) hy hj).1
      refine ⟨hE, ?_, ?_⟩
      · obtain ⟨d, hd, _, _, _, _, _, hx, _⟩ := hE
        simp only [YX, putX, hd]
        refine ⟨by rw [← hd]; exact (YA_put h3).2 hy.1, fun t ht => ?_⟩
        have hne : t ≠ d := fun hh => h2 t ht (hh ▸ hd)
        simp only [effY, hne, if_false]
        split
        · rfl
        · exact hy.2 t ht
      · simp only [putX]
        rw [putA_comm s.1 di .any h2]
  | e xi ei =>
    simp only [YX] at hy
    cases δj with
    | q dj =>
      obtain ⟨d, hd, hg, hdn, hYd, hMd, hf, hx, hq⟩ := hy
      simp only [YX, putX, hd] at hj ⊢
      have hjn : ∀ t, oj.dst = some t → s.2 t = none := by
        intro t ht
        have hne : t ≠ d := fun hh => h2 d hd (hh ▸ ht)
        have hxt : xi ≠ some t := fun hh => h3 t ht (hx t hh).2.2
        have := hj.2 t ht
        rwa [effY_get hne hxt] at this
      refine ⟨⟨(YA_put (dst := some d) (fun t ht => by cases ht; exact h1 d hd)).1 hj.1, hjn⟩, ⟨d, hd, hg, hdn, hYd, hMd, okE_congr (fun t ht => (putA_get fun hh => h3 t hh (looks_of_operand ht)).symm) hf, hx, ?_⟩, ?_⟩
      · exact effQ_congr (fun t ht => (putA_get fun hh => h3 t hh (looks_of_operand ht)).symm) (fun _ _ => rfl) hq
      · rw [putA_comm s.1 .any dj (fun t ht => by cases ht; exact h2 d hd)]
    | e xj ej =>
      have hyE : YX P n M ops oi (.e xi ei) s := hy
      obtain ⟨hE, hxx⟩ := EffA_put h1 h2 h3 hyE hj
      obtain ⟨d, hd, hg, hdn, hYd, hMd, hf, hx, hq⟩ := hy
      obtain ⟨d', hd', hg', hdn', hYd', hMd', hf', hx', hq'⟩ := hE
      have hdd : d ≠ d' := fun hh => h2 d hd (hh ▸ hd')
      have hxi : ∀ xs, xi = some xs → xs ≠ d' ∧ xj ≠ some xs := fun xs hxs => ⟨fun hh => h3 d' hd' (hh ▸ (hx xs hxs).2.2), fun hh => hxx xi ei rfl xs hh hxs⟩
      have hxd' : xj ≠ some d := fun hh => h1 d hd (hx' d hh).2.2
      refine ⟨⟨d', hd', hg', hdn', hYd', hMd', hf', hx', hq'⟩, ?_, ?_⟩
      · simp only [YX, putX, hd']
        refine ⟨d, hd, hg, hdn, ?_, hMd, okE_congr (fun t ht => (putA_get (dst := some d') (fun hh => by cases hh; exact h3 d' hd' (looks_of_operand ht))).symm) hf, ?_, ?_⟩
        · simp only; rw [effY_get hdd hxd']; exact hYd
        · intro xs hxs
          simp only
          rw [effY_get (hxi xs hxs).1 (hxi xs hxs).2]
          exact hx xs hxs
        · exact effQ_congr (fun t ht => (putA_get (dst := some d') (fun hh => by cases hh; exact h3 d' hd' (looks_of_operand ht))).symm) (fun xs hxs => (effY_get (hxi xs hxs).1 (hxi xs hxs).2).symm) hq
      · simp only [putX, hd, hd']
        rw [putA_comm s.1 .any .any (x := some d) (y := some d') (fun t ht => by cases ht; intro hh; cases hh; exact hdd rfl)]
        congr 1
        funext j
        simp only [effY]
        by_cases e1 : j = d <;> by_cases e2 : j = d' <;> by_cases e3 : xi = some j <;> by_cases e4 : xj = some j <;> simp_all

def machX (P : Program) (n : Nat) (M : Tab) (ops : Array Oper) : Mach (Slots × Prv) Dl ops := ⟨YX P n M ops, putX, fun oi oj hap δi δj s => YX_comm oi oj hap δi δj s⟩

variable {B0 : Nat} {X : Xs} {I0 : Nat → Prop} {w0 : World} {md : Region.Mode}

theorem wpOp_of_gOp {i : Nat} {s : Slots × Prv} {a : Act} {w : World} {K : Slots × Prv → Prop} {K' : Act → World → Prop} {Q' : Exit → Act → World → Prop} (hs : StX B0 X I0 w0 n s.1 M s.2 a w) (hk : ∀ s a w, StX B0 X I0 w0 n s.1 M s.2 a w → K s → K' a w) (hh : gOp (machX P n M ops) i K s) : wpOp P ops Q' i K' a w := by
  unfold gOp at hh
  unfold wpOp
  split
  · rename_i ho; simp only [ho] at hh; exact hk _ _ _ hs hh
  · rename_i o ho
    simp only [ho] at hh
    obtain ⟨δ, hy, hK⟩ := hh
    cases δ with
    | q d =>
      obtain ⟨⟨hlt, hy⟩, hYn⟩ := hy
      have hwant : ∀ b, wantA ops s.1 o = some b → Region.wanted o (yielded ops a.tmps) = b := by
        obtain ⟨Im, β, γ, h, _⟩ := hs
        intro b hb
        unfold wantA at hb
        unfold Region.wanted
        split at hb
        · rename_i hg; simp only [hg]; simpa using hb
        · rename_i j want hg
          simp only [hg]
          split at hb
          · rename_i dj hdj
            obtain ⟨y1, y2⟩ := yielded_of h hdj
            split at hb
            · rename_i bb hbb; rw [y1 bb hbb]; simp at hb; simpa using hb
            · rename_i hbb; rw [y2 hbb]; simp at hb; simpa using hb
            · cases hb
          · rename_i hdj; simp [yielded, hdj] at hb ⊢; simpa using hb
      rcases hy with ⟨hw, hq⟩ | ⟨hw, rfl⟩
      · rw [hwant true hw]
        simp only [if_true]
        exact .inl (hvX_sound hs hq (fun t ht => ⟨hlt t ht, hYn t ht⟩) K' Q' fun a' w' h1 => hk (putX s o (.q d)) _ _ h1 hK)
      · rw [hwant false hw]
        simp only [Bool.false_eq_true, if_false]
        obtain ⟨Im, β, γ, h, hp⟩ := hs
        refine hk (putX s o (.q .nov)) _ _ ?_ hK
        cases hdst : o.dst with
        | none => exact ⟨Im, β, γ, by simpa [putX, putA, hdst, Act.put] using h, by simpa [putX, Act.put] using hp⟩
        | some t => exact ⟨Im, β, γ, by simpa [putX, putA, hdst] using h.put (hlt t hdst) (d := .nov) (v := undef) (by simp [Rv, Rc]), by simpa [putX] using hp.put (hYn t hdst) undef⟩
    | e x en =>
      obtain ⟨d, hd, hg, hdn, hYd, hMd, hf, hx, hq⟩ := hy
      have hw : Region.wanted o (yielded ops a.tmps) = true := by simp [Region.wanted, hg]
      rw [hw]
      simp only [if_true]
      rcases hf with hf | ⟨hf, hcl⟩
      · refine .inl (effX_sound hs hd hdn hYd hMd hf (fun xs hxs => (hx xs hxs).1) (by rw [hd]; exact effQ_stp hdn (fun xs hxs => (hx xs hxs).2.1) hf hq) K' Q' fun a' w' h1 => hk (putX s o (.e x en)) _ _ ?_ hK)
        simpa [putX, putA, hd] using h1
      · refine .inl (effX_sound2 hs hd hdn hYd hMd hf (fun xs hxs => (hx xs hxs).1) (by rw [hd]; exact effQ_stp2 hdn (fun xs hxs => (hx xs hxs).2.1) hcl hq) K' Q' fun a' w' h1 => hk (putX s o (.e x en)) _ _ ?_ hK)
        simpa [putX, putA, hd] using h1

theorem wpAny_of_gAnyL {c g : Nat} {L : Array Bool → Slots × Prv → Prop} {Q' : Exit → Act → World → Prop} (hL : ∀ listed s a w, StX B0 X I0 w0 n s.1 M s.2 a w → L listed s → wpAny P md ops Q' g listed a w) :
    ∀ (f : Nat) (listed : Array Bool) (s : Slots × Prv) (a : Act) (w : World), StX B0 X I0 w0 n s.1 M s.2 a w → gAnyL (machX P n M ops) md c L f listed s → wpAny P md ops Q' (f + g) listed a w
  | 0, listed, s, a, w, hs, h => by rw [Nat.zero_add]; exact hL _ _ _ _ hs h
  | f + 1, listed, s, a, w, hs, h => by
    rw [show f + 1 + g = (f + g) + 1 by omega]
    exact ⟨fun h0 => absurd h0 h.1, fun i hi => wpOp_of_gOp hs (fun s' a' w' hs' h' => wpAny_of_gAnyL hL f _ s' a' w' hs' h') (h.2 i hi).2⟩

theorem StX.of {a : Act} {w : World} (h : St B0 X I0 w0 n σ M a w) : StX B0 X I0 w0 n σ M (mkT []) a w := by
  obtain ⟨Im, β, h⟩ := h
  have hn : ∀ (i : Nat) (e : Ent), mkT [] i = some e → False := fun i e he => by simp [mkT] at he
  exact ⟨Im, β, fun _ => ⟨0, 0, 0, true⟩, h, ⟨fun i e he => (hn i e he).elim, fun i e he => (hn i e he).elim, fun i e he => (hn i e he).elim, fun i e he => (hn i e he).elim, fun i e he => (hn i e he).elim, fun i e id e' he => (hn i e he).elim, fun i j hi => by simp [mkT] at hi⟩⟩
theorem St.drew {a : Act} {w : World} (h : St B0 X I0 w0 n σ M a w) : St B0 X I0 w0 n σ M a { w with drawn := w.drawn + 1 } := by
  obtain ⟨Im, β, h⟩ := h
  exact ⟨Im, β, h.drew⟩

theorem t_drawXT {id : Nat} {l : List Oper} {Q : Ex → Slots → Tab → Prop} (c : Nat) (hm : P.follows .mixedOrders = true) (h9 : n ≤ 900) (hB : tailB l.toArray c = true)
    (h : ∀ K : Slots → Tab → Prop, (∀ σ M, Q .normal σ M → K σ M) → gOps (machX P n M l.toArray) (l.take c) (σ, mkT []) fun s => aOps P n l.toArray (dropQ false c l) (realS s.1 s.2) (realM M s.2) K) : Tr P n (.region id l.toArray true) Q σ M := by
  intro B0 X I0 w0 a w hs
  simp only [tailB, Bool.and_eq_true, decide_eq_true_eq] at hB
  obtain ⟨⟨⟨hn, hsk⟩, hc⟩, hlex⟩ := hB
  have hn' : c < l.length := by simpa using hn
  have htl : (l.take c).length = c := by simp; omega
  have inv0 : HeadQ .any l.toArray c l.toArray.size (Array.replicate l.toArray.size false) :=
    ⟨by simp, fun j oj _ hl => (by rw [getD_replicate_false] at hl; cases hl), fun t _ ht _ => getD_in (by simpa using ht) (getD_replicate_false _ _), fun hq => absurd hq (Nat.lt_irrefl _)⟩
  have H := gAnyL_lex (m := machX P n M l.toArray) (md := .any) (js := List.range' c (l.toArray.size - c)) hsk hc (by omega) hn (fun j hj => (List.mem_range'_1.1 hj).1) (l.take c) 0 _ (σ, mkT []) (fun j hj => by
    have hj' : j < c := by rw [htl] at hj; exact hj
    simp [hj']) (by simpa using htl) inv0 (by rw [htl]; exact hlex) (h _ (fun _ _ h => h))
  refine wp_region_any hm ?_
  have := wpAny_of_gAnyL (B0 := B0) (X := X) (I0 := I0) (w0 := w0) (Q' := fun e a' w' => ∃ x σ' M', St B0 X I0 w0 n σ' M' a' w' ∧ Q x σ' M' ∧ match x with | .normal => e = .normal | .exit id => e = .exit id | .ret => e = .ret) (g := (List.range' c (l.toArray.size - c)).length) (fun listed s a' w' hs' hL => by
    refine wpAny_of_seqL (List.range' c (l.toArray.size - c)) (l.drop c) listed a' w' (range'_map l _ c (by simp; omega)) hL.1.1 ?_
    exact aOps_sound (l.drop c) _ _ a' w' _ (hs'.real h9) (by simpa [dropQ] using hL.2) fun σ' M' _ _ h1 h2 => ⟨.normal, σ', M', h1, h2, rfl⟩) _ _ _ _ _ (StX.of hs.drew) H
  rw [htl, List.length_range', show c + (l.toArray.size - c) = l.toArray.size by omega] at this
  exact this

/-! ### the steps -/
def pvS : List (Nat × Ent) → List (Nat × D)
  | [] => []
  | (i, e) :: r => (i, pv i e) :: pvS r
theorem realS_mk (l : List (Nat × D)) : ∀ (y : List (Nat × Ent)), realS (mk l) (mkT y) = mk (pvS y ++ l)
  | [] => by funext i; simp [realS, mkT, pvS]
  | (i, e) :: y => by
    funext j
    have := congrFun (realS_mk l y) j
    simp only [realS, mkT, pvS, List.cons_append, mk] at this ⊢
    by_cases h : j = i
    · subst h; simp
    · simp only [h, if_false]; exact this
theorem realM_mk (m : List (Nat × Ent)) : ∀ (y : List (Nat × Ent)), realM (mkT m) (mkT y) = mkT (y ++ m)
  | [] => by funext i; simp [realM, mkT]
  | (i, e) :: y => by
    funext j
    have := congrFun (realM_mk m y) j
    simp only [realM, mkT, List.cons_append] at this ⊢
    by_cases h : j = i
    · subst h; simp
    · simp only [h, if_false]; exact this
theorem effY_none (y : List (Nat × Ent)) (d : Nat) (e : Ent) : effY (mkT y) d none e = mkT ((d, e) :: y) := by
  funext j; simp [effY, mkT]
theorem effY_some (y : List (Nat × Ent)) (d xs : Nat) (e : Ent) : effY (mkT y) d (some xs) e = mkT ((d, e) :: del xs y) := by
  funext j
  simp only [effY, mkT, mkT_del, Option.some.injEq]
  by_cases h : j = d
  · simp [h]
  · by_cases h2 : j = xs
    · subst h2; simp [h]
    · simp [h, h2, Ne.symm h2]

variable {K : Slots × Prv → Prop} {y : List (Nat × Ent)}
theorem x_nil {s : Slots × Prv} (h : K s) : gOps (machX P n M ops) [] s K := h
theorem xt_nil {l : List Oper} {s : Slots × Prv} (h : K s) : gOps (machX P n M ops) (List.take 0 l) s K := by simpa [gOps] using h
theorem x_plain {dst : Nat} {op : Op} {type : TypeId} {pos : String} {after : Array Edge} {rest : List Oper} (hd : dst < n) (hY : mkT y dst = none)
    (h : ∀ K' : D → Prop, (∀ d, gOps (machX P n M ops) rest (upd σ dst d, mkT y) K → K' d) → hv P M (ev σ) K' op) : gOps (machX P n M ops) (⟨some dst, op, type, pos, after, none⟩ :: rest) (σ, mkT y) K := by
  obtain ⟨d, h1, h2⟩ := hv_ex (h _ (fun _ h => h))
  exact ⟨.q d, ⟨⟨fun t ht => by cases ht; exact hd, .inl ⟨rfl, h1⟩⟩, fun t ht => by cases ht; exact hY⟩, h2⟩
theorem xt_plain {dst c : Nat} {op : Op} {type : TypeId} {pos : String} {after : Array Edge} {rest : List Oper} (hd : dst < n) (hY : mkT y dst = none)
    (h : ∀ K' : D → Prop, (∀ d, gOps (machX P n M ops) (List.take c rest) (upd σ dst d, mkT y) K → K' d) → hv P M (ev σ) K' op) : gOps (machX P n M ops) (List.take (c + 1) (⟨some dst, op, type, pos, after, none⟩ :: rest)) (σ, mkT y) K := by
  rw [List.take_succ_cons]; exact x_plain hd hY h
theorem x_eff {dst : Nat} {op : Op} {type : TypeId} {pos : String} {after : Array Edge} {rest : List Oper} (x : Option Nat) (e : Ent) (hd : dst < n) (hY : mkT y dst = none) (hM : M dst = none) (hf : okE σ op x e)
    (hx : ∀ xs, x = some xs → (mkT y xs).isSome = true ∧ xs < 900 ∧ xs ∈ Oper.looksAt ops ⟨some dst, op, type, pos, after, none⟩) (h : effQ P M σ (mkT y) op x e)
    (hk : gOps (machX P n M ops) rest (upd σ dst .any, effY (mkT y) dst x e) K) : gOps (machX P n M ops) (⟨some dst, op, type, pos, after, none⟩ :: rest) (σ, mkT y) K :=
  ⟨.e x e, ⟨dst, rfl, rfl, hd, hY, hM, hf, hx, h⟩, hk⟩
theorem x_alloc {dst : Nat} {t : TypeId} {type : TypeId} {pos : String} {after : Array Edge} {rest : List Oper} {z : List D} (hz : (tI P t).zero = z) (hz0 : z ≠ []) (hz1 : z.all one = true) (hz2 : z.all flatC = true) (hd : dst < n) (hY : mkT y dst = none) (hM : M dst = none)
    (hk : gOps (machX P n M ops) rest (upd σ dst .any, mkT ((dst, .box z) :: y)) K) : gOps (machX P n M ops) (⟨some dst, .alloc t, type, pos, after, none⟩ :: rest) (σ, mkT y) K := by
  subst hz
  exact x_eff none (.box (tI P t).zero) hd hY hM (.inl hz2) (fun _ hh => by cases hh) ⟨rfl, hz0, hz1, rfl⟩ (by rw [effY_none]; exact hk)
theorem x_empty {dst : Nat} {t e es eb : Nat} {ez : List D} {type : TypeId} {pos : String} {after : Array Edge} {rest : List Oper} (ht : (tI P t).d = .slice e es eb ez) (he : es ≠ 0) (hz : ez.length = es) (hd : dst < n) (hY : mkT y dst = none) (hM : M dst = none)
    (hk : gOps (machX P n M ops) rest (upd σ dst .any, mkT ((dst, .row []) :: y)) K) : gOps (machX P n M ops) (⟨some dst, .buildSlice t 0 #[], type, pos, after, none⟩ :: rest) (σ, mkT y) K :=
  x_eff none (.row []) hd hY hM (.inl (fun r hr => by cases hr)) (fun _ hh => by cases hh) (by simp only [effQ, ht]; exact ⟨trivial, he, hz, rfl, by omega, rfl⟩) (by rw [effY_none]; exact hk)
theorem x_append {dst xs t e es eb : Nat} {ez : List D} {yo : Operand} {type : TypeId} {pos : String} {after : Array Edge} {rest : List Oper} {rows news : List (List D)} (ht : (tI P t).d = .slice e es eb ez) (he : es ≠ 0) (hz : ez.length = es) (hz1 : ez.all one = true)
    (hxs : mkT y xs = some (.row rows)) (hyo : yo ≠ .tmp xs) (hn : rowsOf (fun _ => none) (evV M σ yo) = some news) (hr : RowLen rows es) (hw : RowLen news es) (hb : (rows.length + news.length) * eb ≤ 140737488355328) (hb' : rows.length + news.length ≤ 9223372036854775807) (hf : FlatRows (rows ++ news))
    (hd : dst < n) (hx9 : xs < 900) (hY : mkT y dst = none) (hM : M dst = none)
    (hk : gOps (machX P n M ops) rest (upd σ dst .any, mkT ((dst, .row (rows ++ news)) :: del xs y)) K) : gOps (machX P n M ops) (⟨some dst, .call ⟨.builtin .append, #[.tmp xs, yo], #[t, t]⟩, type, pos, after, none⟩ :: rest) (σ, mkT y) K :=
  x_eff (some xs) (.row (rows ++ news)) hd hY hM (.inl hf) (fun z hh => by
    cases hh
    refine ⟨by rw [hxs]; rfl, hx9, ?_⟩
    exact looks_of_operand (o := ⟨some dst, .call ⟨.builtin .append, #[.tmp xs, yo], #[t, t]⟩, type, pos, after, none⟩) (by simp [Op.operands, Call.operands])) (by
    simp only [effQ, ht]
    exact ⟨trivial, he, hz, hz1, news, hn, hw, trivial, hyo, rows, hxs, hr, hb, hb', rfl⟩) (by rw [effY_some]; exact hk)
theorem x_take {c : Nat} {o : Oper} {rest : List Oper} {s : Slots × Prv} (h : gOps (machX P n M ops) (o :: List.take c rest) s K) : gOps (machX P n M ops) (List.take (c + 1) (o :: rest)) s K := h
end
end Go.Proofs.YtmiclkgkfkcnoaaGreat

/- Drawn regions with effects of every kind: what need not commute must wait, and what may come in any order commutes. -/
namespace Go.Proofs.YtmiclkgkfkcnoaaGreat
open Go.RowKit

/-! ### orders, by what waits for what -/
inductive Up (md : Region.Mode) (ops : Array Oper) (i : Nat) : Nat → Prop where
  | base {j : Nat} (h : Region.waitsFor md ops j i = true) : Up md ops i j
  | step {k j : Nat} (h : Up md ops i k) (h' : Region.waitsFor md ops j k = true) : Up md ops i j
def upL (md : Region.Mode) (ops : Array Oper) (i : Nat) : Nat → List Bool
  | 0 => []
  | j + 1 => let u := upL md ops i j; u ++ [Region.waitsFor md ops j i || (List.range j).any fun k => u.getD k false && Region.waitsFor md ops j k]
theorem upL_len (md : Region.Mode) (ops : Array Oper) (i : Nat) : ∀ j, (upL md ops i j).length = j
  | 0 => rfl
  | j + 1 => by simp [upL, upL_len md ops i j]
theorem upL_up {md : Region.Mode} {ops : Array Oper} {i : Nat} : ∀ (j k : Nat), (upL md ops i j).getD k false = true → Up md ops i k
  | 0, k, h => by simp [upL] at h
  | j + 1, k, h => by
    simp only [upL] at h
    rcases Nat.lt_or_ge k j with hk | hk
    · refine upL_up j k ?_
      simpa [List.getD, List.getElem?_append, upL_len, hk] using h
    · by_cases hkj : k = j
      · subst hkj
        simp only [List.getD, List.getElem?_append, upL_len, Nat.lt_irrefl, if_false, Nat.sub_self, List.getElem?_cons_zero, Option.getD_some, Bool.or_eq_true] at h
        rcases h with h | h
        · exact .base h
        · obtain ⟨q, hq, h2⟩ := List.any_eq_true.1 h
          simp only [Bool.and_eq_true] at h2
          exact .step (upL_up k q (by simpa [List.getD] using h2.1)) h2.2
      · have : k ≥ j + 1 := by omega
        simp [List.getD, List.getElem?_append, upL_len, show ¬ k < j by omega, List.getElem?_eq_none (show [_].length ≤ k - j by simp; omega)] at h

def Closed (md : Region.Mode) (ops : Array Oper) (listed : Array Bool) : Prop :=
  ∀ j oj, ops[j]? = some oj → listed.getD j false = true → ∀ e ∈ oj.after, Region.binds md e = true → listed.getD e.on false = true
theorem Up.not_done {md : Region.Mode} {ops : Array Oper} {i j : Nat} {listed : Array Bool} (hc : Closed md ops listed) (hi : listed.getD i false = false) (h : Up md ops i j) : j ∉ Region.ready md ops listed ∧ listed.getD j false = false := by
  have key : ∀ {k j : Nat}, listed.getD k false = false → Region.waitsFor md ops j k = true → j ∉ Region.ready md ops listed ∧ listed.getD j false = false := by
    intro k j hk hw
    obtain ⟨oj, hoj, e, he, hb, hon⟩ := Region.waitsFor_spec hw
    constructor
    · intro hr
      obtain ⟨_, o', ho', hall⟩ := mem_ready.1 hr
      have : o' = oj := Option.some.inj (ho'.symm.trans hoj)
      subst this
      have := hall e he hb
      rw [hon, hk] at this; cases this
    · cases hl : listed.getD j false with
      | false => rfl
      | true =>
        have := hc j oj hoj hl e he hb
        rw [hon, hk] at this; cases this
  induction h with
  | base h => exact key hi h
  | step _ h' ih => exact key ih.2 h'

structure MachK (S Δ : Type) (ops : Array Oper) (ok : Oper → Oper → Bool) where
  Y : Oper → Δ → S → Prop
  put : S → Oper → Δ → S
  comm : ∀ oi oj, oi.apart ops oj = true → ok oi oj = true → ∀ δi δj s, Y oi δi s → Y oj δj (put s oi δi) → Y oj δj s ∧ Y oi δi (put s oj δj) ∧ put (put s oi δi) oj δj = put (put s oj δj) oi δi

section
variable {S Δ : Type} {ops : Array Oper} {md : Region.Mode} {ok : Oper → Oper → Bool}
def kOp (m : MachK S Δ ops ok) (i : Nat) (K : S → Prop) (s : S) : Prop :=
  match ops[i]? with
  | none => K s
  | some o => ∃ δ, m.Y o δ s ∧ K (m.put s o δ)
def kOps (m : MachK S Δ ops ok) : List Oper → S → (S → Prop) → Prop
  | [], s, K => K s
  | o :: rest, s, K => ∃ δ, m.Y o δ s ∧ kOps m rest (m.put s o δ) K
def freeK (md : Region.Mode) (ops : Array Oper) (ok : Oper → Oper → Bool) (listed : Array Bool) (i : Nat) : Bool :=
  match ops[i]? with
  | none => false
  | some oi =>
    let u := upL md ops i ops.size
    (List.range ops.size).all fun j => decide (j = i) || listed.getD j true || u.getD j false || (match ops[j]? with | some oj => oi.apart ops oj && ok oi oj | none => true)
variable {m : MachK S Δ ops ok}
theorem Closed.set {i : Nat} {listed : Array Bool} (hc : Closed md ops listed) (hi : i ∈ Region.ready md ops listed) : Closed md ops (listed.setIfInBounds i true) := by
  obtain ⟨_, oi, hoi, hall⟩ := mem_ready.1 hi
  intro j oj hj hl e he hb
  by_cases hij : i = j
  · subst hij
    have : oj = oi := Option.some.inj (hj.symm.trans hoi)
    subst this
    exact getD_set_true (hall e he hb)
  · rw [getD_set_ne false hij] at hl
    exact getD_set_true (hc j oj hj hl e he hb)

theorem freeK_spec {listed : Array Bool} {i : Nat} {oi : Oper} (hi : ops[i]? = some oi) (h : freeK md ops ok listed i = true) : ∀ j oj, ops[j]? = some oj → j ≠ i → listed.getD j true = false → ¬ Up md ops i j → oi.apart ops oj = true ∧ ok oi oj = true := by
  intro j oj hj hji hun hno
  simp only [freeK, hi] at h
  have hlt : j < ops.size := (Array.getElem?_eq_some_iff.1 hj).1
  have := List.all_eq_true.1 h j (List.mem_range.2 hlt)
  simp only [Bool.or_eq_true, decide_eq_true_eq, hj, Bool.and_eq_true] at this
  rcases this with ((h1 | h1) | h1) | h1
  · exact absurd h1 hji
  · rw [hun] at h1; cases h1
  · exact absurd (upL_up _ _ h1) hno
  · exact h1
end

/-! ### base effects beside what is private -/
section
variable {B0 : Nat} {X : Xs} {I0 : Nat → Prop} {w0 : World} {n : Nat} {Im : Nat → Prop} {β : Nat → RowG} {σ : Nat → D} {M : Nat → Option Ent} {a : Act} {w : World} {P : Program}

theorem stpX_sound {Y : Prv} (hX : StX B0 X I0 w0 n σ M Y a w) {o : Oper} {K : Slots → Tab → Prop} (hd : ∀ t, o.dst = some t → Y t = none) (hq : stp P n o.dst o.op σ M K) (hK : ∀ σ' M', K σ' M' → ∀ i e, Y i = some e → M' i = none) (K' : Act → World → Prop) (Q : Exit → Act → World → Prop)
    (hk : ∀ σ' M' a' w', StX B0 X I0 w0 n σ' M' Y a' w' → K σ' M' → K' a' w') : o.wp P a w K' Q := by
  obtain ⟨Im, β, γ, h, hp⟩ := hX
  have hw := wp_shape (stp_sound h.rebase hq (fun a' w' => ∃ σ' M', St w.heap.size (X.now (tabBlk β M)) Im w n σ' M' a' w' ∧ K σ' M') Q (fun σ' M' a' w' hs hh => ⟨σ', M', hs, hh⟩))
  refine Oper.wp_mono (fun a' w' hh => ?_) hw
  obtain ⟨⟨σ', M', ⟨Im1, β', h1'⟩, hKK⟩, hshape⟩ := hh
  obtain ⟨h1, hcI⟩ := h.keepIm h1'
  generalize hI : (fun b => Im1 b ∨ Im b) = Im' at h1
  have hII : ∀ b, Im b → Im' b := fun b hb => by rw [← hI]; exact .inr hb
  obtain ⟨v, rfl⟩ : ∃ v, a' = a.put o.dst v := hshape.resolve_right fun hne => hne h1.defers
  refine hk σ' M' _ w' ⟨Im', β', γ, h.unbase h1, ?_⟩ hKK
  have hsame : ∀ i e, Y i = some e → (γ i).nil = false → w'.heap[(γ i).blk]? = w.heap[(γ i).blk]? := by
    intro i e he hn
    refine h1.fr.block _ (EntOk_blk (hp.ent i e he) hn).1 ?_
    rintro ⟨id, e', he', hn', heq⟩
    exact hp.disj i e id e' he he' hn hn' heq
  refine { lt := fun i e he => ⟨(hp.lt i e he).1, hK σ' M' hKK i e he⟩, flat := hp.flat, ent := ?_, val := ?_, own := hp.own, disj := ?_, inj := hp.inj }
  · intro i e he
    refine EntOk_cl (hp.flat i e he) (hp.ent i e he) (hsame i e he) ?_ hcI hII
    intro hn him
    have hb := EntOk_blk (hp.ent i e he) hn
    rcases h1.imo _ him with g | g | ⟨id, e', he', hn', heq⟩
    · exact hb.2 g
    · have := hb.1; omega
    · exact hp.disj i e id e' he he' hn hn' heq
  · intro i e he
    cases hdst : o.dst with
    | none => simpa [Act.put] using hp.val i e he
    | some t => rw [getD_put (fun hh => by rw [hh, hd t hdst] at he; cases he)]; exact hp.val i e he
  · intro i e id e' he he' hn hn' heq
    have hb := EntOk_blk (hp.ent i e he) hn
    rcases h1.own id e' he' hn' with g | ⟨id2, e2, he2, hn2, heq2⟩
    · rw [← heq] at g; have := hb.1; omega
    · exact hp.disj i e id2 e2 he he2 hn hn2 (heq.trans heq2)

def dropY (Y : Prv) (p : Nat) : Prv := fun j => if j = p then none else Y j
theorem StX.real1 {Y : Prv} (hX : StX B0 X I0 w0 n σ M Y a w) (h9 : n ≤ 900) {p : Nat} {e : Ent} (hpe : Y p = some e) : StX B0 X I0 w0 n (upd σ p (pv p e)) (upd M p (some e)) (dropY Y p) a w := by
  obtain ⟨Im, β, γ, h, hp⟩ := hX
  obtain ⟨hpn, hMp⟩ := hp.lt p e hpe
  have hag : Agree β (upd β p (γ p)) M (upd M p (some e)) := by
    intro id hs
    have hne : id ≠ p := fun hh => by rw [hh, hMp] at hs; cases hs
    rw [upd_ne _ _ hne, upd_ne _ _ hne]
    exact ⟨rfl, hs, rfl⟩
  have hget : ∀ {j e'}, upd M p (some e) j = some e' → (j = p ∧ e' = e) ∨ (j ≠ p ∧ M j = some e') := by
    intro j e' hj
    by_cases hjp : j = p
    · subst hjp; rw [upd_same] at hj; cases hj; exact .inl ⟨rfl, rfl⟩
    · rw [upd_ne _ _ hjp] at hj; exact .inr ⟨hjp, hj⟩
  have hgetY : ∀ {j e'}, dropY Y p j = some e' → j ≠ p ∧ Y j = some e' := by
    intro j e' hj
    unfold dropY at hj
    split at hj
    · cases hj
    · rename_i hne; exact ⟨hne, hj⟩
  have hflat := hp.flat p e hpe
  have hentp := hp.ent p e hpe
  refine ⟨Im, upd β p (γ p), γ, { defers := h.defers, size := h.size, slots := ?_, hi := ?_, im := h.im, tab := ?_, own := ?_, inj := ?_, base := h.base, fr := h.fr, imo := h.imo, pin := ?_, small := h.small }, { lt := ?_, flat := ?_, ent := ?_, val := ?_, own := ?_, disj := ?_, inj := ?_ }⟩
  · intro i hi
    by_cases hip : i = p
    · subst hip
      rw [upd_same]
      have hv := hp.val i e hpe
      cases e with
      | row rows => simp only [pv, Rv]; exact ⟨rows.length, by simp [upd_same, Ent.len], by rw [upd_same]; exact hv⟩
      | box cells => simp only [pv, Rv]; exact ⟨by simp [upd_same], by rw [upd_same]; exact hv.1, by rw [upd_same]; simpa using hv.2⟩
    · rw [upd_ne _ _ hip]
      exact Rv_mono (fun _ _ _ => rfl) (fun _ hb => hb) hag _ _ (h.slots i hi)
  · intro i hi
    rw [upd_ne _ _ (by omega)]
    exact h.hi i hi
  · intro j e' hj
    rcases hget hj with ⟨rfl, rfl⟩ | ⟨hne, hm⟩
    · rw [upd_same]
      exact EntOk_cl hflat hentp (fun _ => rfl) (fun hn => (EntOk_blk hentp hn).2) (fun _ _ _ => rfl) (fun _ hb => hb)
    · rw [upd_ne _ _ hne]
      exact EntOk_mono (fun _ _ _ => rfl) (fun _ hb => hb) hag (fun hn => h.not_im hm hn) (fun _ => rfl) e' (h.tab j e' hm)
  · intro j e' hj hn
    rcases hget hj with ⟨rfl, rfl⟩ | ⟨hne, hm⟩
    · rw [upd_same] at hn ⊢; exact .inl (hp.own _ _ hpe hn)
    · rw [upd_ne _ _ hne] at hn ⊢; exact h.own j e' hm hn
  · intro i j hi hj hni hnj heq
    obtain ⟨e1, he1⟩ := Option.isSome_iff_exists.1 hi
    obtain ⟨e2, he2⟩ := Option.isSome_iff_exists.1 hj
    rcases hget he1 with ⟨rfl, _⟩ | ⟨hne, hm⟩ <;> rcases hget he2 with ⟨h2, _⟩ | ⟨hne2, hm2⟩
    · exact h2.symm
    · rw [upd_same] at hni heq; rw [upd_ne _ _ hne2] at hnj heq
      exact absurd heq (hp.disj _ _ j e2 hpe hm2 hni hnj)
    · subst h2
      rw [upd_ne _ _ hne] at hni heq; rw [upd_same] at hnj heq
      exact absurd heq.symm (hp.disj _ _ i e1 hpe hm hnj hni)
    · rw [upd_ne _ _ hne] at hni heq; rw [upd_ne _ _ hne2] at hnj heq
      exact h.inj i j (by rw [hm]; rfl) (by rw [hm2]; rfl) hni hnj heq
  · intro id g hg
    have hne : id ≠ p := fun hh => by rw [hh, X.lo p (.inl (by omega))] at hg; cases hg
    rw [upd_ne _ _ hne]
    exact h.pin id g hg
  · intro i e' he
    obtain ⟨hne, hy⟩ := hgetY he
    exact ⟨(hp.lt i e' hy).1, by rw [upd_ne _ _ hne]; exact (hp.lt i e' hy).2⟩
  · intro i e' he
    exact hp.flat i e' (hgetY he).2
  · intro i e' he
    obtain ⟨hne, hy⟩ := hgetY he
    exact EntOk_cl (hp.flat i e' hy) (hp.ent i e' hy) (fun _ => rfl) (fun hn => (EntOk_blk (hp.ent i e' hy) hn).2) (fun _ _ _ => rfl) (fun _ hb => hb)
  · intro i e' he
    exact hp.val i e' (hgetY he).2
  · intro i e' he hn
    exact hp.own i e' (hgetY he).2 hn
  · intro i e' id e2 he he2 hn hn2 heq
    obtain ⟨hne, hy⟩ := hgetY he
    rcases hget he2 with ⟨rfl, _⟩ | ⟨hne2, hm⟩
    · rw [upd_same] at hn2 heq
      exact hne (hp.inj i _ (by rw [hy]; rfl) (by rw [hpe]; rfl) hn hn2 heq)
    · rw [upd_ne _ _ hne2] at hn2 heq
      exact hp.disj i e' id e2 hy hm hn hn2 heq
  · intro i j hi hj hni hnj heq
    obtain ⟨e1, he1⟩ := Option.isSome_iff_exists.1 hi
    obtain ⟨e2, he2⟩ := Option.isSome_iff_exists.1 hj
    exact hp.inj i j (by rw [(hgetY he1).2]; rfl) (by rw [(hgetY he2).2]; rfl) hni hnj heq
end

/-! ### the machine of all of them -/
abbrev SG := Slots × Tab × Prv
inductive Dg where
  | q (d : D)
  | f (d : D)
  | e (x : Option Nat) (en : Ent)
  | al (en : Ent)
  | st (p : Nat) (en e' : Ent)
  | b (σ' : Slots) (M' : Tab)

def cls (B : List Nat) (o : Oper) : Nat :=
  match o.guard, o.op, o.dst with
  | none, .alloc _, some _ => 1
  | none, .store _ (.tmp _) _, none => 2
  | none, op, some d => if B.contains d then 4 else (match op with | .move _ => 0 | .assign _ => 0 | .extract _ _ => 0 | _ => 3)
  | _, _, _ => 3
def addrOf (o : Oper) : Option Nat := match o.op with | .store _ (.tmp p) _ => some p | _ => none
def noAddr (ops : Array Oper) (o s : Oper) : Bool := match addrOf s with | some p => !(o.looksAt ops).contains p && o.dst != some p | none => true
def plainOp : Op → Bool
  | .load _ _ => true
  | .fieldAddr _ _ _ => true
  | .indexAddr _ _ _ => true
  | _ => false
def okG (B : List Nat) (ops : Array Oper) (oi oj : Oper) : Bool :=
  match cls B oi, cls B oj with
  | 0, 0 | 0, 1 | 1, 0 | 1, 1 | 0, 3 | 3, 0 | 1, 3 | 3, 1 | 3, 3 | 1, 4 | 4, 1 => true
  | 0, 2 => noAddr ops oi oj
  | 2, 0 => noAddr ops oj oi
  | 1, 2 | 2, 1 => true
  | 2, 2 => noAddr ops oi oj && noAddr ops oj oi
  | 3, 2 => plainOp oi.op && noAddr ops oi oj
  | _, _ => false

def fv (σ : Slots) (op : Op) (d : D) : Prop :=
  match op with
  | .move x => d = ev σ x
  | .assign x => d = ev σ x
  | .extract x i => ∃ ds, ev σ x = .tup ds ∧ i < ds.length ∧ d = ds.getD i .any
  | _ => False

section
variable {P : Program} {n : Nat} {ops : Array Oper}

def YG (P : Program) (n : Nat) (ops : Array Oper) (B A : List Nat) (o : Oper) (δ : Dg) (s : SG) : Prop :=
  match δ with
  | .q d => cls B o = 3 ∧ YA P n s.2.1 ops o d s.1 ∧ ∀ t, o.dst = some t → s.2.2 t = none
  | .f d => cls B o = 0 ∧ (∃ t, o.dst = some t ∧ t < n ∧ s.2.2 t = none) ∧ fv s.1 o.op d
  | .e x en => cls B o = 3 ∧ EffA P n s.2.1 ops o x en (s.1, s.2.2)
  | .al en => cls B o = 1 ∧ ∃ d t z, o.dst = some d ∧ o.op = .alloc t ∧ d ∈ A ∧ d < n ∧ s.1 d = .any ∧ s.2.2 d = none ∧ s.2.1 d = none ∧ en = .box z ∧ (tI P t).zero = z ∧ z ≠ [] ∧ z.all one = true ∧ z.all flatC = true
  | .st p en e' => cls B o = 2 ∧ ∃ t y, o.op = .store t (.tmp p) y ∧ o.dst = none ∧ y ≠ .tmp p ∧ s.2.2 p = some en ∧ (p < 900 ∧ s.2.1 p = none) ∧ storeQ P (upd s.2.1 p (some en)) t (pv p en) (ev s.1 y) fun m => m = upd s.2.1 p (some e')
  | .b σ' M' => cls B o = 4 ∧ (∃ t, o.dst = some t ∧ s.2.2 t = none) ∧ stp P n o.dst o.op s.1 s.2.1 (fun x m => x = σ' ∧ m = M') ∧ (∀ d ∈ A, (σ' d = .any ∧ M' d = none) ∧ s.1 d = .any ∧ s.2.1 d = none) ∧ ∀ i e, s.2.2 i = some e → i ∈ A
def putG (s : SG) (o : Oper) (δ : Dg) : SG :=
  match δ with
  | .q d => (putA s.1 o.dst d, s.2.1, s.2.2)
  | .f d => (putA s.1 o.dst d, s.2.1, s.2.2)
  | .e x en => (putA s.1 o.dst .any, s.2.1, match o.dst with | some d => effY s.2.2 d x en | none => s.2.2)
  | .al en => (s.1, s.2.1, match o.dst with | some d => effY s.2.2 d none en | none => s.2.2)
  | .st p en e' => (upd s.1 p (pv p en), upd s.2.1 p (some e'), dropY s.2.2 p)
  | .b σ' M' => (σ', M', s.2.2)

theorem fv_hv {M : Tab} {σ : Slots} {op : Op} {d : D} (h : fv σ op d) : hv P M (ev σ) (· = d) op := by
  unfold fv at h
  split at h
  · subst h; simp only [hv, qv]
  · subst h; simp only [hv, qv]
  · obtain ⟨ds, h1, h2, rfl⟩ := h
    simp only [hv, qv, h1]; exact ⟨h2, trivial⟩
  · exact h.elim
theorem fv_congr {σ σ' : Slots} {op : Op} {d : D} (h : ∀ t, Operand.tmp t ∈ op.operands → σ t = σ' t) (hf : fv σ op d) : fv σ' op d := by
  have key : ∀ o, o ∈ op.operands → ev σ o = ev σ' o := by
    intro o ho
    cases o with
    | tmp t => exact h t ho
    | _ => rfl
  unfold fv at *
  split at hf
  · rw [← key _ (by simp [Op.operands])]; exact hf
  · rw [← key _ (by simp [Op.operands])]; exact hf
  · rw [← key _ (by simp [Op.operands])]; exact hf
  · exact hf.elim
theorem storeQ_set {M M' : Tab} {t : TypeId} {x y : D} (h : storeQ P M t x y fun m => m = M') : ∃ id e, (M id).isSome = true ∧ M' = upd M id (some e) := by
  cases x with
  | ptr id i off =>
    cases hf : flat y with
    | none => simp [storeQ, hf] at h
    | some cs =>
      simp only [storeQ, hf] at h
      obtain ⟨_, _, _, h⟩ := h
      cases hM : M id with
      | none => rw [hM] at h; exact h.elim
      | some e =>
        rw [hM] at h
        cases e with
        | box cells => exact ⟨id, _, by rw [hM]; rfl, h.2.2.symm⟩
        | row rows => exact ⟨id, _, by rw [hM]; rfl, h.2.2.2.symm⟩
  | _ => simp [storeQ] at h
theorem storeQ_none {M M' : Tab} {t : TypeId} {x y : D} {d : Nat} (h : storeQ P M t x y fun m => m = M') : M' d = none ↔ M d = none := by
  obtain ⟨id, e, h1, rfl⟩ := storeQ_set h
  by_cases hd : d = id
  · subst hd; rw [upd_same]; constructor
    · intro hh; cases hh
    · intro hh; rw [hh] at h1; cases h1
  · rw [upd_ne _ _ hd]
theorem upd_comm {α : Type} (f : Nat → α) {i j : Nat} (x y : α) (h : i ≠ j) : upd (upd f i x) j y = upd (upd f j y) i x := by
  funext k; simp only [upd]; by_cases h1 : k = i <;> by_cases h2 : k = j <;> simp_all

theorem upd_upd {α : Type} (f : Nat → α) (i : Nat) (x y : α) : upd (upd f i x) i y = upd f i y := by
  funext k; simp only [upd]; split <;> rfl
theorem storeQ_at {M : Tab} {t : TypeId} {p : Nat} {en e' : Ent} {v : D} (h : storeQ P (upd M p (some en)) t (pv p en) v fun m => m = upd M p (some e')) (M1 : Tab) : storeQ P (upd M1 p (some en)) t (pv p en) v fun m => m = upd M1 p (some e') := by
  cases en with
  | row rows => simp [pv, storeQ] at h
  | box cells =>
    cases hf : flat v with
    | none => simp [pv, storeQ, hf] at h
    | some cs =>
      simp only [pv, storeQ, hf, upd_same, upd_upd] at h ⊢
      obtain ⟨g1, g2, g3, g4, g5, g6⟩ := h
      have e1 := congrFun g6 p
      rw [upd_same, upd_same] at e1
      exact ⟨g1, g2, g3, g4, g5, by rw [e1]⟩
theorem storeQ_to {M : Tab} {t : TypeId} {p : Nat} {en : Ent} {v : D} {K : Tab → Prop} (h : storeQ P (upd M p (some en)) t (pv p en) v K) : ∃ e', storeQ P (upd M p (some en)) t (pv p en) v (fun m => m = upd M p (some e')) ∧ K (upd M p (some e')) := by
  cases en with
  | row rows => simp [pv, storeQ] at h
  | box cells =>
    cases hf : flat v with
    | none => simp [pv, storeQ, hf] at h
    | some cs =>
      simp only [pv, storeQ, hf, upd_same, upd_upd] at h ⊢
      obtain ⟨g1, g2, g3, g4, g5, g6⟩ := h
      exact ⟨_, ⟨g1, g2, g3, g4, g5, rfl⟩, g6⟩
theorem hv_new {M : Tab} {p : Nat} {e : Ent} (hM : M p = none) {ρ : Operand → D} {K : D → Prop} {op : Op} (ho : plainOp op = true) (h : hv P M ρ K op) : hv P (upd M p (some e)) ρ K op := by
  cases op <;> simp [plainOp] at ho
  · rename_i t x
    simp only [hv, qv] at h ⊢
    cases hx : ρ x with
    | ptr id i off =>
      rw [hx] at h
      simp only at h ⊢
      have hid : id ≠ p := by rintro rfl; rw [hM] at h; exact h
      rw [upd_ne _ _ hid]
      exact h
    | _ => rw [hx] at h; exact h
  · exact h
  · rename_i t x i
    simp only [hv, qv] at h ⊢
    revert h
    split
    · exact fun h => h
    · rename_i id kd m hd hx hi
      rintro ⟨rows, h1, h2⟩
      refine ⟨rows, ?_, h2⟩
      have hid : id ≠ p := by rintro rfl; rw [hM] at h1; cases h1
      rw [upd_ne _ _ hid]; exact h1
    · exact fun h => h
def clsD : Dg → Nat
  | .q _ => 3 | .f _ => 0 | .e _ _ => 3 | .al _ => 1 | .st _ _ _ => 2 | .b _ _ => 4
variable {B A : List Nat}
theorem YG_cls {o : Oper} {δ : Dg} {s : SG} (h : YG P n ops B A o δ s) : cls B o = clsD δ := by
  cases δ <;> exact h.1
theorem cls0_guard {o : Oper} (h : cls B o = 0) : o.guard = none := by
  unfold cls at h
  split at h <;> first | assumption | cases h
theorem addr_looks {o : Oper} {t p : Nat} {y : Operand} (h : o.op = .store t (.tmp p) y) : p ∈ o.looksAt ops := looks_of_operand (by rw [h]; simp [Op.operands])
theorem y_looks {o : Oper} {t p q : Nat} (h : o.op = .store t (.tmp p) (.tmp q)) : q ∈ o.looksAt ops := looks_of_operand (by rw [h]; simp [Op.operands])
theorem ev_upd {σ : Slots} {t : Nat} {d : D} {y : Operand} (h : y ≠ .tmp t) : ev (upd σ t d) y = ev σ y := by
  cases y with
  | tmp s => simp only [ev]; rw [upd_ne _ _ (fun hh => h (by rw [hh]))]
  | _ => rfl
theorem f_YX {M : Tab} {o : Oper} {d : D} {s : Slots × Prv} (hc : cls B o = 0) (h : (∃ t, o.dst = some t ∧ t < n ∧ s.2 t = none) ∧ fv s.1 o.op d) : YX P n M ops o (.q d) s := by
  obtain ⟨⟨t, ht, hn, hY⟩, hf⟩ := h
  refine ⟨⟨fun t' ht' => by rw [ht] at ht'; cases ht'; exact hn, .inl ⟨by simp [wantA, cls0_guard hc], fv_hv hf⟩⟩, fun t' ht' => by rw [ht] at ht'; cases ht'; exact hY⟩
theorem effY_comm {Y : Prv} {d d' : Nat} {x x' : Option Nat} {e e' : Ent} (h1 : d ≠ d') (h2 : x ≠ some d') (h3 : x' ≠ some d) : effY (effY Y d x e) d' x' e' = effY (effY Y d' x' e') d x e := by
  funext j
  simp only [effY]
  by_cases e1 : j = d <;> by_cases e2 : j = d' <;> by_cases e3 : x = some j <;> by_cases e4 : x' = some j <;> simp_all

theorem YG_comm (oi oj : Oper) (hap : oi.apart ops oj = true) (hok : okG B ops oi oj = true) (δi δj : Dg) (s : SG) (hy : YG P n ops B A oi δi s) (hj : YG P n ops B A oj δj (putG s oi δi)) :
    YG P n ops B A oj δj s ∧ YG P n ops B A oi δi (putG s oj δj) ∧ putG (putG s oi δi) oj δj = putG (putG s oj δj) oi δi := by
  obtain ⟨h1, h2, h3⟩ := Oper.apart_spec hap
  obtain ⟨σ, M, Y⟩ := s
  have ci := YG_cls hy
  have cj := YG_cls hj
  have vals : ∀ (di : D) (e : Dl) , YX P n M ops oi (.q di) (σ, Y) → YX P n M ops oj e (putX (σ, Y) oi (.q di)) → YX P n M ops oj e (σ, Y) ∧ YX P n M ops oi (.q di) (putX (σ, Y) oj e) ∧ putX (putX (σ, Y) oi (.q di)) oj e = putX (putX (σ, Y) oj e) oi (.q di) := fun di e => YX_comm oi oj hap _ _ _
  cases δi with
  | q di =>
    obtain ⟨c1, y1, y2⟩ := hy
    have X1 : YX P n M ops oi (.q di) (σ, Y) := ⟨y1, y2⟩
    cases δj with
    | q dj =>
      obtain ⟨c2, z1, z2⟩ := hj
      obtain ⟨g1, g2, g3⟩ := vals di (.q dj) X1 ⟨z1, z2⟩
      exact ⟨⟨c2, g1.1, g1.2⟩, ⟨c1, g2.1, g2.2⟩, by simp only [putG]; exact congrArg (fun (z : Slots × Prv) => (z.1, M, z.2)) g3⟩
    | f dj =>
      obtain ⟨c2, z1, z2⟩ := hj
      obtain ⟨g1, g2, g3⟩ := vals di (.q dj) X1 (f_YX c2 ⟨z1, z2⟩)
      refine ⟨⟨c2, z1, ?_⟩, ⟨c1, g2.1, g2.2⟩, by simp only [putG]; exact congrArg (fun (z : Slots × Prv) => (z.1, M, z.2)) g3⟩
      refine fv_congr (fun t hto => ?_) z2
      exact putA_get fun hh => h1 t hh (looks_of_operand hto)
    | e x en =>
      obtain ⟨c2, z1⟩ := hj
      obtain ⟨g1, g2, g3⟩ := vals di (.e x en) X1 z1
      exact ⟨⟨c2, g1⟩, ⟨c1, g2.1, g2.2⟩, by simp only [putG]; exact congrArg (fun (z : Slots × Prv) => (z.1, M, z.2)) g3⟩
    | al en =>
      obtain ⟨c2, d, t, z, hd, hop, hA, hdn, hs, hY, hM, rest⟩ := hj
      have hne : oi.dst ≠ some d := fun hh => h2 d hh hd
      simp only [putG] at hs hY hM
      rw [putA_get hne] at hs
      refine ⟨⟨c2, d, t, z, hd, hop, hA, hdn, hs, hY, hM, rest⟩, ⟨c1, y1, fun t' ht' => ?_⟩, by simp only [putG]⟩
      simp only [putG, hd]
      have : t' ≠ d := fun hh => hne (hh ▸ ht')
      rw [effY_get this (fun hh => by cases hh)]; exact y2 t' ht'
    | st p en e' =>
      obtain ⟨c2, t, y, hop, hd0, hyp, hYp, hp9, hst⟩ := hj
      have hna : (plainOp oi.op && noAddr ops oi oj) = true := by rw [okG, ci, cj] at hok; simpa [clsD] using hok
      simp only [noAddr, addrOf, hop, Bool.and_eq_true, Bool.not_eq_true', bne_iff_ne, ne_eq] at hna
      obtain ⟨hpl, hna1, hna2⟩ := hna
      have hlook : p ∉ oi.looksAt ops := by simpa using hna1
      simp only [putG] at hYp hst hp9
      have hev : ev (putA σ oi.dst di) y = ev σ y := ev_putA fun q hq hyq => by subst hyq; exact h1 q hq (y_looks hop)
      rw [hev] at hst
      have hpu : ∀ q, some p = some q → q ∉ oi.looksAt ops := fun q hq => by cases hq; exact hlook
      have e0 : upd σ p (pv p en) = putA σ (some p) (pv p en) := rfl
      refine ⟨⟨c2, t, y, hop, hd0, hyp, hYp, hp9, hst⟩, ⟨c1, ⟨y1.1, ?_⟩, fun t' ht' => ?_⟩, ?_⟩
      · simp only [putG]
        rw [e0, wantA_put hpu, hv_put hpu]
        exact y1.2.imp (fun ⟨a, b⟩ => ⟨a, hv_new hp9.2 hpl b⟩) id
      · simp only [putG, dropY]
        split
        · rfl
        · exact y2 t' ht'
      · simp only [putG]
        have : putA (upd σ p (pv p en)) oi.dst di = upd (putA σ oi.dst di) p (pv p en) := by
          rw [e0, putA_comm σ (x := some p) (y := oi.dst) (pv p en) di (fun t ht => by cases ht; exact hna2)]
          rfl
        rw [this]
    | b σ' M' => rw [okG, ci, cj] at hok; simp [clsD] at hok
  | f di =>
    obtain ⟨c1, y1, y2⟩ := hy
    have X1 : YX P n M ops oi (.q di) (σ, Y) := f_YX c1 ⟨y1, y2⟩
    obtain ⟨ti, hti, htn, hYt⟩ := y1
    cases δj with
    | q dj =>
      obtain ⟨c2, z1, z2⟩ := hj
      obtain ⟨g1, g2, g3⟩ := vals di (.q dj) X1 ⟨z1, z2⟩
      refine ⟨⟨c2, g1.1, g1.2⟩, ⟨c1, ⟨ti, hti, htn, hYt⟩, ?_⟩, by simp only [putG]; exact congrArg (fun (z : Slots × Prv) => (z.1, M, z.2)) g3⟩
      exact fv_congr (fun t hto => (putA_get fun hh => h3 t hh (looks_of_operand hto)).symm) y2
    | f dj =>
      obtain ⟨c2, z1, z2⟩ := hj
      obtain ⟨g1, g2, g3⟩ := vals di (.q dj) X1 (f_YX c2 ⟨z1, z2⟩)
      refine ⟨⟨c2, z1, ?_⟩, ⟨c1, ⟨ti, hti, htn, hYt⟩, ?_⟩, by simp only [putG]; exact congrArg (fun (z : Slots × Prv) => (z.1, M, z.2)) g3⟩
      · refine fv_congr (fun t hto => ?_) z2
        exact putA_get fun hh => h1 t hh (looks_of_operand hto)
      · exact fv_congr (fun t hto => (putA_get fun hh => h3 t hh (looks_of_operand hto)).symm) y2
    | e x en =>
      obtain ⟨c2, z1⟩ := hj
      obtain ⟨g1, g2, g3⟩ := vals di (.e x en) X1 z1
      refine ⟨⟨c2, g1⟩, ⟨c1, ⟨ti, hti, htn, g2.2 ti hti⟩, ?_⟩, by simp only [putG]; exact congrArg (fun (z : Slots × Prv) => (z.1, M, z.2)) g3⟩
      exact fv_congr (fun t hto => (putA_get fun hh => h3 t hh (looks_of_operand hto)).symm) y2
    | al en =>
      obtain ⟨c2, d, t, z, hd, hop, hA, hdn, hs, hY, hM, rest⟩ := hj
      have hne : oi.dst ≠ some d := fun hh => h2 d hh hd
      simp only [putG] at hs hY hM
      rw [putA_get hne] at hs
      refine ⟨⟨c2, d, t, z, hd, hop, hA, hdn, hs, hY, hM, rest⟩, ⟨c1, ⟨ti, hti, htn, ?_⟩, y2⟩, by simp only [putG]⟩
      simp only [putG, hd]
      have : ti ≠ d := fun hh => hne (hh ▸ hti)
      simp only at hYt
      simp [effY, this, hYt]
    | st p en e' =>
      obtain ⟨c2, t, y, hop, hd0, hyp, hYp, hp9, hst⟩ := hj
      have hna : noAddr ops oi oj = true := by rw [okG, ci, cj] at hok; simpa [clsD] using hok
      simp only [noAddr, addrOf, hop, Bool.and_eq_true, Bool.not_eq_true', bne_iff_ne, ne_eq] at hna
      obtain ⟨hna1, hna2⟩ := hna
      have hlook : p ∉ oi.looksAt ops := by simpa using hna1
      have htp : ti ≠ p := fun hh => hna2 (hh ▸ hti)
      simp only [putG, hti, putA] at hYp hst
      have hev : ev (upd σ ti di) y = ev σ y := by
        refine ev_upd fun hh => ?_
        subst hh
        exact h1 ti hti (y_looks hop)
      rw [hev] at hst
      refine ⟨⟨c2, t, y, hop, hd0, hyp, hYp, hp9, hst⟩, ⟨c1, ⟨ti, hti, htn, ?_⟩, ?_⟩, ?_⟩
      · simp only [putG, dropY]
        simp only at hYt
        split
        · rfl
        · exact hYt
      · exact fv_congr (fun t' hto => (upd_ne σ (i := p) (j := t') (pv p en) (fun (hh : t' = p) => hlook (hh ▸ looks_of_operand hto))).symm) y2
      · simp only [putG, hti, putA]
        rw [upd_comm σ _ _ htp]
    | b σ' M' => rw [okG, ci, cj] at hok; simp [clsD] at hok
  | e x en =>
    obtain ⟨c1, y1⟩ := hy
    have X1 : YX P n M ops oi (.e x en) (σ, Y) := y1
    cases δj with
    | q dj =>
      obtain ⟨c2, z1, z2⟩ := hj
      obtain ⟨g1, g2, g3⟩ := YX_comm oi oj hap (.e x en) (.q dj) (σ, Y) X1 ⟨z1, z2⟩
      exact ⟨⟨c2, g1.1, g1.2⟩, ⟨c1, g2⟩, by simp only [putG]; exact congrArg (fun (z : Slots × Prv) => (z.1, M, z.2)) g3⟩
    | f dj =>
      obtain ⟨c2, z1, z2⟩ := hj
      obtain ⟨g1, g2, g3⟩ := YX_comm oi oj hap (.e x en) (.q dj) (σ, Y) X1 (f_YX c2 ⟨z1, z2⟩)
      obtain ⟨tj, htj, htn, _⟩ := z1
      refine ⟨⟨c2, ⟨tj, htj, htn, g1.2 tj htj⟩, ?_⟩, ⟨c1, g2⟩, by simp only [putG]; exact congrArg (fun (z : Slots × Prv) => (z.1, M, z.2)) g3⟩
      refine fv_congr (fun t hto => ?_) z2
      exact putA_get fun hh => h1 t hh (looks_of_operand hto)
    | e x' en' =>
      obtain ⟨c2, z1⟩ := hj
      obtain ⟨g1, g2, g3⟩ := YX_comm oi oj hap (.e x en) (.e x' en') (σ, Y) X1 z1
      exact ⟨⟨c2, g1⟩, ⟨c1, g2⟩, by simp only [putG]; exact congrArg (fun (z : Slots × Prv) => (z.1, M, z.2)) g3⟩
    | al en' =>
      obtain ⟨c2, d, t, z, hd, hop, hA, hdn, hs, hY, hM, rest⟩ := hj
      obtain ⟨di, hdi, hg, hdin, hYd, hMd, hf, hx, hq⟩ := y1
      have hne : oi.dst ≠ some d := fun hh => h2 d hh hd
      have hdd : d ≠ di := fun hh => hne (hh ▸ hdi)
      have hxd : x ≠ some d := fun hh => h3 d hd (hx d hh).2.2
      simp only [putG, hdi] at hs hY hM
      rw [putA_get (fun hh => by cases hh; exact hdd rfl)] at hs
      rw [effY_get hdd hxd] at hY
      refine ⟨⟨c2, d, t, z, hd, hop, hA, hdn, hs, hY, hM, rest⟩, ⟨c1, di, hdi, hg, hdin, ?_, hMd, hf, ?_, ?_⟩, ?_⟩
      · simp only [putG, hd]; rw [effY_get (Ne.symm hdd) (fun hh => by cases hh)]; exact hYd
      · intro xs hxs
        simp only [putG, hd]
        rw [effY_get (j := xs) (fun (hh : xs = d) => h3 d hd (hh ▸ (hx xs hxs).2.2)) (fun hh => by cases hh)]
        exact hx xs hxs
      · exact effQ_congr (fun _ _ => rfl) (fun xs hxs => by simp only [putG, hd]; rw [effY_get (j := xs) (fun (hh : xs = d) => h3 d hd (hh ▸ (hx xs hxs).2.2)) (fun hh => by cases hh)]) hq
      · simp only [putG, hdi, hd]
        rw [effY_comm (Ne.symm hdd) hxd (fun hh => by cases hh)]
    | st p en e' =>
      rw [okG, ci, cj] at hok
      simp [clsD] at hok
      exfalso
      obtain ⟨_, _, _, _, _, _, _, _, hq⟩ := y1
      have hpl := hok.1
      revert hpl hq
      cases oi.op <;> simp [plainOp, effQ]
    | b σ' M' => rw [okG, ci, cj] at hok; simp [clsD] at hok
  | al en =>
    obtain ⟨c1, d, t, z, hd, hop, hA, hdn, hs, hY, hM, rest⟩ := hy
    simp only at hs hY hM
    have back : ∀ {tj : Nat}, oj.dst = some tj → tj ≠ d := fun {tj} htj hh => h2 d hd (hh ▸ htj)
    cases δj with
    | q dj =>
      obtain ⟨c2, z1, z2⟩ := hj
      simp only [putG, hd] at z1 z2
      refine ⟨⟨c2, z1, fun t' ht' => ?_⟩, ⟨c1, d, t, z, hd, hop, hA, hdn, ?_, hY, hM, rest⟩, by simp only [putG]⟩
      · have := z2 t' ht'
        rwa [effY_get (back ht') (fun hh => by cases hh)] at this
      · simp only [putG]; rw [putA_get (fun hh => back hh rfl)]; exact hs
    | f dj =>
      obtain ⟨c2, ⟨tj, htj, htn, hYj⟩, z2⟩ := hj
      simp only [putG, hd] at hYj z2
      refine ⟨⟨c2, ⟨tj, htj, htn, ?_⟩, z2⟩, ⟨c1, d, t, z, hd, hop, hA, hdn, ?_, hY, hM, rest⟩, by simp only [putG]⟩
      · rwa [effY_get (back htj) (fun hh => by cases hh)] at hYj
      · simp only [putG]; rw [putA_get (fun hh => back hh rfl)]; exact hs
    | e x' en' =>
      obtain ⟨c2, dj, hdj, hg, hdjn, hYd, hMd, hf, hx, hq⟩ := hj
      simp only [putG, hd] at hYd hMd hx hq
      have hdd : dj ≠ d := back hdj
      have hxne : ∀ xs, x' = some xs → xs ≠ d := fun xs hxs hh => h1 d hd (hh ▸ (hx xs hxs).2.2)
      have hxd : x' ≠ some d := fun hh => hxne d hh rfl
      refine ⟨⟨c2, dj, hdj, hg, hdjn, ?_, hMd, hf, ?_, ?_⟩, ⟨c1, d, t, z, hd, hop, hA, hdn, ?_, ?_, hM, rest⟩, ?_⟩
      · rwa [effY_get hdd (fun hh => by cases hh)] at hYd
      · intro xs hxs
        have := hx xs hxs
        rwa [effY_get (hxne xs hxs) (fun hh => by cases hh)] at this
      · exact effQ_congr (fun _ _ => rfl) (fun xs hxs => effY_get (hxne xs hxs) (fun hh => by cases hh)) hq
      · simp only [putG]; rw [putA_get (fun hh => back hh rfl)]; exact hs
      · simp only [putG, hdj]; rw [effY_get (Ne.symm hdd) hxd]; exact hY
      · simp only [putG, hdj, hd]
        rw [effY_comm (Ne.symm hdd) (fun hh => by cases hh) hxd]
    | al en' =>
      obtain ⟨c2, d', t', z', hd', hop', hA', hdn', hs', hY', hM', rest'⟩ := hj
      simp only [putG, hd] at hs' hY' hM'
      have hdd : d' ≠ d := back hd'
      rw [effY_get hdd (fun hh => by cases hh)] at hY'
      refine ⟨⟨c2, d', t', z', hd', hop', hA', hdn', hs', hY', hM', rest'⟩, ⟨c1, d, t, z, hd, hop, hA, hdn, hs, ?_, hM, rest⟩, ?_⟩
      · simp only [putG, hd']; rw [effY_get (Ne.symm hdd) (fun hh => by cases hh)]; exact hY
      · simp only [putG, hd, hd']
        rw [effY_comm (Ne.symm hdd) (fun hh => by cases hh) (fun hh => by cases hh)]
    | st p enp e' =>
      obtain ⟨c2, ts, y, hops, hd0, hyp, hYp, hp9, hst⟩ := hj
      simp only [putG, hd] at hYp hst
      have hpd : p ≠ d := fun hh => h1 d hd (hh ▸ addr_looks hops)
      rw [effY_get hpd (fun hh => by cases hh)] at hYp
      refine ⟨⟨c2, ts, y, hops, hd0, hyp, hYp, hp9, hst⟩, ⟨c1, d, t, z, hd, hop, hA, hdn, ?_, ?_, ?_, rest⟩, ?_⟩
      · simp only [putG]; rw [upd_ne _ _ (Ne.symm hpd)]; exact hs
      · simp only [putG, dropY]; rw [if_neg (Ne.symm hpd)]; exact hY
      · simp only [putG]; rw [storeQ_none hst, upd_ne _ _ (Ne.symm hpd)]; exact hM
      · simp only [putG, hd]
        congr 2
        funext j
        simp only [dropY, effY]
        by_cases e1 : j = p <;> by_cases e2 : j = d <;> simp_all
    | b σ' M' =>
      obtain ⟨c2, ⟨tj, htj, hYj⟩, hstp, hAA, hYA⟩ := hj
      simp only [putG, hd] at hYj hstp hAA hYA
      refine ⟨⟨c2, ⟨tj, htj, ?_⟩, hstp, hAA, fun i e hi => ?_⟩, ⟨c1, d, t, z, hd, hop, hA, hdn, (hAA d hA).1.1, hY, (hAA d hA).1.2, rest⟩, by simp only [putG]⟩
      · rwa [effY_get (back htj) (fun hh => by cases hh)] at hYj
      · by_cases hid : i = d
        · subst hid; exact hA
        · exact hYA i e (by rw [effY_get hid (fun hh => by cases hh)]; exact hi)
  | st p en e' =>
    obtain ⟨c1, ts, y, hops, hd0, hyp, hYp, hp9, hst⟩ := hy
    simp only at hYp hst
    cases δj with
    | f dj =>
      obtain ⟨c2, ⟨tj, htj, htn, hYj⟩, z2⟩ := hj
      simp only [putG] at hYj z2
      have hna : noAddr ops oj oi = true := by rw [okG, ci, cj] at hok; simpa [clsD] using hok
      simp only [noAddr, addrOf, hops, Bool.and_eq_true, Bool.not_eq_true', bne_iff_ne, ne_eq] at hna
      obtain ⟨hna1, hna2⟩ := hna
      have hlook : p ∉ oj.looksAt ops := by simpa using hna1
      have htp : tj ≠ p := fun hh => hna2 (hh ▸ htj)
      refine ⟨⟨c2, ⟨tj, htj, htn, ?_⟩, ?_⟩, ⟨c1, ts, y, hops, hd0, hyp, hYp, hp9, ?_⟩, ?_⟩
      · simpa [dropY, htp] using hYj
      · exact fv_congr (fun t' hto => upd_ne σ (i := p) (j := t') (pv p en) (fun (hh : t' = p) => hlook (hh ▸ looks_of_operand hto))) z2
      · simp only [putG, htj, putA]
        rw [ev_upd (fun hh => by subst hh; exact h3 tj htj (y_looks hops))]
        exact hst
      · simp only [putG, htj, putA]
        rw [upd_comm σ _ _ (Ne.symm htp)]
    | al en' =>
      obtain ⟨c2, d, t, z, hd, hop, hA, hdn, hs, hY, hM, rest⟩ := hj
      simp only [putG] at hs hY hM
      have hdp : d ≠ p := fun hh => h3 d hd (hh ▸ addr_looks hops)
      rw [upd_ne _ _ hdp] at hs
      rw [storeQ_none hst, upd_ne _ _ hdp] at hM
      refine ⟨⟨c2, d, t, z, hd, hop, hA, hdn, hs, by simpa [dropY, hdp] using hY, hM, rest⟩, ⟨c1, ts, y, hops, hd0, hyp, ?_, hp9, hst⟩, ?_⟩
      · simp only [putG, hd]; rw [effY_get (Ne.symm hdp) (fun hh => by cases hh)]; exact hYp
      · simp only [putG, hd]
        congr 2
        funext j
        simp only [dropY, effY]
        by_cases e1 : j = p <;> by_cases e2 : j = d <;> simp_all
    | q dj => rw [okG, ci, cj] at hok; simp [clsD] at hok
    | e x' en' => rw [okG, ci, cj] at hok; simp [clsD] at hok
    | st p' en' e'' =>
      obtain ⟨c2, ts2, y2, hops2, hd2, hyp2, hYp2, hp92, hst2⟩ := hj
      have hna : (noAddr ops oi oj && noAddr ops oj oi) = true := by rw [okG, ci, cj] at hok; simpa [clsD] using hok
      simp only [noAddr, addrOf, hops, hops2, Bool.and_eq_true, Bool.not_eq_true', bne_iff_ne, ne_eq] at hna
      obtain ⟨⟨hna1, _⟩, hna2, _⟩ := hna
      have hl1 : p' ∉ oi.looksAt ops := by simpa using hna1
      have hl2 : p ∉ oj.looksAt ops := by simpa using hna2
      have hpp : p ≠ p' := fun hh => hl1 (hh ▸ addr_looks hops)
      simp only [putG] at hYp2 hst2
      have ev2 : ev (upd σ p (pv p en)) y2 = ev σ y2 := ev_upd fun hh => by subst hh; exact hl2 (y_looks hops2)
      have ev1 : ev (upd σ p' (pv p' en')) y = ev σ y := ev_upd fun hh => by subst hh; exact hl1 (y_looks hops)
      rw [ev2] at hst2
      refine ⟨⟨c2, ts2, y2, hops2, hd2, hyp2, by simpa [dropY, Ne.symm hpp] using hYp2, ⟨hp92.1, by have := hp92.2; simp only [putG] at this; rwa [upd_ne _ _ (Ne.symm hpp)] at this⟩, storeQ_at hst2 M⟩, ⟨c1, ts, y, hops, hd0, hyp, ?_, ⟨hp9.1, by simp only [putG]; rw [upd_ne _ _ hpp]; exact hp9.2⟩, ?_⟩, ?_⟩
      · simpa [putG, dropY, hpp] using hYp
      · simp only [putG]; rw [ev1]; exact storeQ_at hst _
      · simp only [putG]
        rw [upd_comm σ _ _ hpp, upd_comm M _ _ hpp]
        congr 2
        funext j
        simp only [dropY]
        by_cases e1 : j = p <;> by_cases e2 : j = p' <;> simp_all
    | b σ' M'' => rw [okG, ci, cj] at hok; simp [clsD] at hok
  | b σ' M' =>
    obtain ⟨c1, ⟨ti, hti, hYi⟩, hstp, hAA, hYA⟩ := hy
    simp only at hYi hstp hAA hYA
    cases δj with
    | al en' =>
      obtain ⟨c2, d, t, z, hd, hop, hA, hdn, hs, hY, hM, rest⟩ := hj
      simp only [putG] at hs hY hM
      have hne : ti ≠ d := fun hh => h2 ti hti (hh ▸ hd)
      refine ⟨⟨c2, d, t, z, hd, hop, hA, hdn, (hAA d hA).2.1, hY, (hAA d hA).2.2, rest⟩, ⟨c1, ⟨ti, hti, ?_⟩, hstp, hAA, fun i e hi => ?_⟩, by simp only [putG]⟩
      · simp only [putG, hd]; rw [effY_get hne (fun hh => by cases hh)]; exact hYi
      · simp only [putG, hd] at hi
        by_cases hid : i = d
        · subst hid; exact hA
        · rw [effY_get hid (fun hh => by cases hh)] at hi; exact hYA i e hi
    | q dj => rw [okG, ci, cj] at hok; simp [clsD] at hok
    | f dj => rw [okG, ci, cj] at hok; simp [clsD] at hok
    | e x' en' => rw [okG, ci, cj] at hok; simp [clsD] at hok
    | st p' en' M'' => rw [okG, ci, cj] at hok; simp [clsD] at hok
    | b σ'' M'' => rw [okG, ci, cj] at hok; simp [clsD] at hok

def machG (P : Program) (n : Nat) (ops : Array Oper) (B A : List Nat) : MachK SG Dg ops (okG B ops) := ⟨YG P n ops B A, putG, fun oi oj hap hok δi δj s => YG_comm oi oj hap hok δi δj s⟩
end
end Go.Proofs.YtmiclkgkfkcnoaaGreat

/- The machine of all effects: that it is right, and its steps. -/
namespace Go.Proofs.YtmiclkgkfkcnoaaGreat
open Go.RowKit

section
variable {P : Program} {n : Nat} {ops : Array Oper} {B A : List Nat} {B0 : Nat} {X : Xs} {I0 : Nat → Prop} {w0 : World} {md : Region.Mode}

theorem wpOp_of_kOp (h9 : n ≤ 900) {i : Nat} {s : SG} {a : Act} {w : World} {K : SG → Prop} {K' : Act → World → Prop} {Q' : Exit → Act → World → Prop} (hs : StX B0 X I0 w0 n s.1 s.2.1 s.2.2 a w) (hk : ∀ s a w, StX B0 X I0 w0 n s.1 s.2.1 s.2.2 a w → K s → K' a w) (hh : kOp (machG P n ops B A) i K s) : wpOp P ops Q' i K' a w := by
  obtain ⟨σ, M, Y⟩ := s
  unfold kOp at hh
  unfold wpOp
  split
  · rename_i ho; simp only [ho] at hh; exact hk _ _ _ hs hh
  · rename_i o ho
    simp only [ho] at hh
    obtain ⟨δ, hy, hK⟩ := hh
    cases δ with
    | q d =>
      obtain ⟨_, ⟨hlt, hy⟩, hYn⟩ := hy
      have hwant : ∀ b, wantA ops σ o = some b → Region.wanted o (yielded ops a.tmps) = b := by
        obtain ⟨Im, β, γ, h, _⟩ := hs
        intro b hb
        unfold wantA at hb
        unfold Region.wanted
        split at hb
        · rename_i hg; simp only [hg]; simpa using hb
        · rename_i j want hg
          simp only [hg]
          split at hb
          · rename_i dj hdj
            obtain ⟨y1, y2⟩ := yielded_of h hdj
            split at hb
            · rename_i bb hbb; rw [y1 bb hbb]; simp at hb; simpa using hb
            · rename_i hbb; rw [y2 hbb]; simp at hb; simpa using hb
            · cases hb
          · rename_i hdj; simp [yielded, hdj] at hb ⊢; simpa using hb
      rcases hy with ⟨hw, hq⟩ | ⟨hw, rfl⟩
      · rw [hwant true hw]
        simp only [if_true]
        exact .inl (hvX_sound hs hq (fun t ht => ⟨hlt t ht, hYn t ht⟩) K' Q' fun a' w' h1 => hk (putG (σ, M, Y) o (.q d)) _ _ h1 hK)
      · rw [hwant false hw]
        simp only [Bool.false_eq_true, if_false]
        obtain ⟨Im, β, γ, h, hp⟩ := hs
        refine hk (putG (σ, M, Y) o (.q .nov)) _ _ ?_ hK
        cases hdst : o.dst with
        | none => exact ⟨Im, β, γ, by simpa [putG, putA, hdst, Act.put] using h, by simpa [putG, Act.put] using hp⟩
        | some t => exact ⟨Im, β, γ, by simpa [putG, putA, hdst] using h.put (hlt t hdst) (d := .nov) (v := undef) (by simp [Rv, Rc]), by simpa [putG] using hp.put (hYn t hdst) undef⟩
    | f d =>
      obtain ⟨c1, ⟨t, ht, htn, hYt⟩, hf⟩ := hy
      have hw : Region.wanted o (yielded ops a.tmps) = true := by simp [Region.wanted, cls0_guard c1]
      rw [hw]
      simp only [if_true]
      exact .inl (hvX_sound hs (fv_hv hf) (fun t' ht' => by rw [ht] at ht'; cases ht'; exact ⟨htn, hYt⟩) K' Q' fun a' w' h1 => hk (putG (σ, M, Y) o (.f d)) _ _ h1 hK)
    | e x en =>
      obtain ⟨_, d, hd, hg, hdn, hYd, hMd, hf, hx, hq⟩ := hy
      have hw : Region.wanted o (yielded ops a.tmps) = true := by simp [Region.wanted, hg]
      rw [hw]
      simp only [if_true]
      rcases hf with hf | ⟨hf, hcl⟩
      · refine .inl (effX_sound hs hd hdn hYd hMd hf (fun xs hxs => (hx xs hxs).1) (by rw [hd]; exact effQ_stp hdn (fun xs hxs => (hx xs hxs).2.1) hf hq) K' Q' fun a' w' h1 => hk (putG (σ, M, Y) o (.e x en)) _ _ ?_ hK)
        simpa [putG, putA, hd] using h1
      · refine .inl (effX_sound2 hs hd hdn hYd hMd hf (fun xs hxs => (hx xs hxs).1) (by rw [hd]; exact effQ_stp2 hdn (fun xs hxs => (hx xs hxs).2.1) hcl hq) K' Q' fun a' w' h1 => hk (putG (σ, M, Y) o (.e x en)) _ _ ?_ hK)
        simpa [putG, putA, hd] using h1
    | al en =>
      obtain ⟨c1, d, t, z, hd, hop, hA, hdn, hσ, hYd, hMd, rfl, hz, hz0, hz1, hz2⟩ := hy
      have hg : o.guard = none := by
        unfold cls at c1
        split at c1 <;> first | assumption | cases c1
      have hw : Region.wanted o (yielded ops a.tmps) = true := by simp [Region.wanted, hg]
      rw [hw]
      simp only [if_true]
      subst hz
      refine .inl (effX_sound hs hd hdn hYd hMd (e' := .box (tI P t).zero) hz2 (x := none) (fun xs hxs => by cases hxs) (by rw [hd, hop]; exact effQ_stp hdn (fun xs hxs => by cases hxs) hz2 ⟨rfl, hz0, hz1, rfl⟩) K' Q' fun a' w' h1 => hk (putG (σ, M, Y) o (.al (.box (tI P t).zero))) _ _ ?_ hK)
      have e1 : upd σ d .any = σ := by
        funext j
        by_cases hj : j = d
        · subst hj; rw [upd_same]; exact hσ.symm
        · rw [upd_ne _ _ hj]
      rw [e1] at h1
      simpa [putG, hd] using h1
    | st p en e' =>
      obtain ⟨c1, t, y, hop, hd0, hyp, hYp, hp9, hst⟩ := hy
      have hg : o.guard = none := by
        unfold cls at c1
        split at c1 <;> first | assumption | (split at c1 <;> first | cases c1 | (split at c1 <;> cases c1)) | cases c1
      have hw : Region.wanted o (yielded ops a.tmps) = true := by simp [Region.wanted, hg]
      rw [hw]
      simp only [if_true]
      have h1 := hs.real1 h9 hYp
      refine .inl (stpX_sound h1 (o := o) (K := fun x m => x = upd σ p (pv p en) ∧ m = upd M p (some e')) (fun t ht => by rw [hd0] at ht; cases ht) ?_ ?_ K' Q' fun σ' m' a' w' h2 h3 => ?_)
      · rw [hd0, hop]
        simp only [stp]
        have e1 : ev (upd σ p (pv p en)) (.tmp p) = pv p en := by simp [ev, upd_same]
        rw [e1, ev_upd hyp]
        obtain ⟨id, e, g1, g2⟩ := storeQ_set hst
        exact storeQ_mono (fun m hm => ⟨by first | rfl | trivial, hm⟩) hst
      · rintro σ' m' ⟨_, rfl⟩ i e hi
        rw [storeQ_none hst]
        obtain ⟨_, _, _, _, hp1⟩ := h1
        exact (hp1.lt i e hi).2
      · obtain ⟨rfl, rfl⟩ := h3
        exact hk (putG (σ, M, Y) o (.st p en e')) _ _ h2 hK
    | b σ' M' =>
      obtain ⟨c1, ⟨t, ht, hYt⟩, hstp, hAA, hYA⟩ := hy
      have hg : o.guard = none := by
        unfold cls at c1
        split at c1 <;> first | assumption | cases c1
      have hw : Region.wanted o (yielded ops a.tmps) = true := by simp [Region.wanted, hg]
      rw [hw]
      simp only [if_true]
      refine .inl (stpX_sound hs (fun t' ht' => by rw [ht] at ht'; cases ht'; exact hYt) hstp ?_ K' Q' fun σ2 M2 a' w' h2 h3 => ?_)
      · rintro σ2 M2 ⟨rfl, rfl⟩ i e hi
        exact (hAA i (hYA i e hi)).1.2
      · obtain ⟨rfl, rfl⟩ := h3
        exact hk (putG (σ, M, Y) o (.b σ2 M2)) _ _ h2 hK
where
  storeQ_mono {M : Tab} {t : TypeId} {x y : D} {K K' : Tab → Prop} (h : ∀ m, K m → K' m) (hq : storeQ P M t x y K) : storeQ P M t x y K' := by
    cases x with
    | ptr id i off =>
      cases hf : flat y with
      | none => simp [storeQ, hf] at hq
      | some cs =>
        simp only [storeQ, hf] at hq ⊢
        obtain ⟨g1, g2, g3, hq⟩ := hq
        refine ⟨g1, g2, g3, ?_⟩
        cases hM : M id with
        | none => rw [hM] at hq; exact hq.elim
        | some e =>
          rw [hM] at hq
          cases e with
          | box cells => exact ⟨hq.1, hq.2.1, h _ hq.2.2⟩
          | row rows => exact ⟨hq.1, hq.2.1, hq.2.2.1, h _ hq.2.2.2⟩
    | _ => simp [storeQ] at hq

/-! ### the steps -/
variable {σ : Slots} {M : Tab} {K : SG → Prop} {y : List (Nat × Ent)} {rest : List Oper} {type : TypeId} {pos : String} {after : Array Edge}
def isFree : Op → Bool
  | .move _ => true
  | .assign _ => true
  | .extract _ _ => true
  | _ => false
theorem hv_fv {op : Op} {d : D} (h : hv P M (ev σ) (· = d) op) (ho : isFree op = true) : fv σ op d := by
  cases op <;> simp [isFree] at ho
  · simp only [hv, qv] at h; simp only [fv]; exact h.symm
  · simp only [hv, qv] at h; simp only [fv]; exact h.symm
  · rename_i x i
    simp only [hv, qv] at h
    split at h
    · rename_i ds hd; exact ⟨ds, hd, h.1, h.2.symm⟩
    · exact h.elim
theorem g_val {dst : Nat} {op : Op} (hc : cls B ⟨some dst, op, type, pos, after, none⟩ = 3 ∨ (cls B ⟨some dst, op, type, pos, after, none⟩ = 0 ∧ isFree op = true)) (hd : dst < n) (hY : mkT y dst = none)
    (h : ∀ K' : D → Prop, (∀ d, kOps (machG P n ops B A) rest (upd σ dst d, M, mkT y) K → K' d) → hv P M (ev σ) K' op) : kOps (machG P n ops B A) (⟨some dst, op, type, pos, after, none⟩ :: rest) (σ, M, mkT y) K := by
  obtain ⟨d, h1, h2⟩ := hv_ex (h _ (fun _ h => h))
  rcases hc with hc | ⟨hc, ho⟩
  · exact ⟨.q d, ⟨hc, ⟨fun t ht => by cases ht; exact hd, .inl ⟨rfl, h1⟩⟩, fun t ht => by cases ht; exact hY⟩, h2⟩
  · exact ⟨.f d, ⟨hc, ⟨dst, rfl, hd, hY⟩, hv_fv h1 ho⟩, h2⟩
theorem dropY_mk (y : List (Nat × Ent)) (p : Nat) : dropY (mkT y) p = mkT (del p y) := by
  funext j; simp only [dropY, mkT_del]
end
end Go.Proofs.YtmiclkgkfkcnoaaGreat

/- '==' at a struct of ints. -/
namespace Go.Proofs.YtmiclkgkfkcnoaaGreat
open Go.RowKit

def intFields (P : Program) : Nat → List Field → Bool
  | _, [] => true
  | k, f :: fs => f.offset == k && f.name != "_" && P.plainKey f.type && (match P.underlying f.type with | some (.int _) => true | _ => false) && intFields P (k + 1) fs
def eqTyB (P : Program) (t : TypeId) (m : Nat) : Bool :=
  (match P.underlying t with | some (.struct _) => true | _ => false) && !P.stoodInHeld t && !P.eqGuardType P.depth t && intFields P 0 (P.fieldsOf t).toList && (P.fieldsOf t).size == m

theorem eqFields_run {P : Program} {w : World} {d : Nat} {xs ys : List Int} (hxy : xs.length = ys.length) : ∀ (fs : List Field) (k : Nat), intFields P k fs = true → k + fs.length = xs.length →
    (Op.eqFields (d + 1) (xs.map (Value.int .i64)).toArray (ys.map (Value.int .i64)).toArray fs).run P w = .ok (decide (xs.drop k = ys.drop k)) w
  | [], k, _, hl => by
    have h1 : xs.drop k = [] := List.drop_eq_nil_of_le (by simp at hl; omega)
    have h2 : ys.drop k = [] := List.drop_eq_nil_of_le (by simp at hl; omega)
    simp [Op.eqFields, h1, h2]
  | f :: fs, k, h, hl => by
    simp only [intFields, Bool.and_eq_true] at h
    obtain ⟨⟨⟨⟨h1, h2⟩, h3⟩, h4⟩, h5⟩ := h
    have hk : k < xs.length := by simp at hl; omega
    have hk' : k < ys.length := by omega
    have ho : f.offset = k := by simpa using h1
    have px : (part f.type (xs.map (Value.int .i64)).toArray f.offset).run P w = .ok (.int .i64 xs[k]) w := run_part_plain w h3 (by simp [ho, hk])
    have py : (part f.type (ys.map (Value.int .i64)).toArray f.offset).run P w = .ok (.int .i64 ys[k]) w := run_part_plain w h3 (by simp [ho, hk'])
    have ih := eqFields_run (w := w) (d := d) hxy fs (k + 1) h5 (by simp at hl; omega)
    have hd : xs.drop k = xs[k] :: xs.drop (k + 1) := List.drop_eq_getElem_cons hk
    have hd' : ys.drop k = ys[k] :: ys.drop (k + 1) := List.drop_eq_getElem_cons hk'
    have hn : f.name ≠ "_" := by simpa using h2
    split at h4
    · rename_i kk hu
      simp only [Op.eqFields, if_pos hn, Sem.run_bind, px, py, Result.andThen_ok, run_equalIn_int w d f.type .i64 kk _ _ hu]
      have hz : decide (xs.drop k = ys.drop k) = (decide (xs[k] = ys[k]) && decide (xs.drop (k + 1) = ys.drop (k + 1))) := by
        rw [hd, hd']; simp only [List.cons.injEq, Bool.decide_and]
      rw [hz]
      by_cases he : xs[k] = ys[k]
      · simp [he, ih]
      · simp [he]
    · cases h4

theorem aggEq_of {P : Program} {t : TypeId} {m : Nat} (h : eqTyB P t m = true) : AggEq P t m := by
  simp only [eqTyB, Bool.and_eq_true, Bool.not_eq_true'] at h
  obtain ⟨⟨⟨⟨h1, h2⟩, h3⟩, h4⟩, h5⟩ := h
  have ht : P.underlying t = some (.struct (P.fieldsOf t)) := by
    unfold Program.fieldsOf
    split at h1
    · rename_i fs hu; simp [hu]
    · cases h1
  intro w x y xs ys hx hy
  have hm : (P.fieldsOf t).toList.length = m := by simpa using h5
  have key := eqFields_run (P := P) (w := w) (d := 9998) (xs := xs) (ys := ys) (by omega) (P.fieldsOf t).toList 0 h4 (by omega)
  simp only [List.drop_zero] at key
  constructor
  · simp only [Sem.run_bind, run_eqGuard_agg w _ t x y _ _ h3, Result.andThen_ok, run_eql_struct, run_equalIn_agg w 9999 t _ _ ht h2, key]
  · simp only [Sem.run_bind, run_eqGuard_agg w _ t x y _ _ h3, Result.andThen_ok, run_neq_struct, run_equalIn_agg w 9999 t _ _ ht h2, key]
end Go.Proofs.YtmiclkgkfkcnoaaGreat

/- From a law's contract to its call. -/
namespace Go.Proofs.YtmiclkgkfkcnoaaGreat
open Go.RowKit

theorem law_calls {P : Program} {f : FuncId} {ds : List D} (h : ACall P f ds (.bool true) []) {w : World} {vs : List Value} (hv : RcL w (fun b => b < w.heap.size) ds vs) :
    Calls P f vs.toArray w fun e w' => e = .returned (.bool true) ∧ Below w.heap.size w w' := by
  refine (h.2 w vs _ (fun _ h => h) hv).mono ?_
  rintro e w' ⟨v, rfl, hb, Im, β, _, _, h3, _, _⟩
  refine ⟨?_, hb⟩
  simp only [Rv, Rc] at h3
  rw [h3]
end Go.Proofs.YtmiclkgkfkcnoaaGreat

/- Weakening of written-out states; loops. -/
namespace Go.Proofs.YtmiclkgkfkcnoaaGreat
open Go.RowKit

theorem Imp.trans {n : Nat} {σ σ' σ'' : Slots} {M M' M'' : Tab} (h : Imp n σ M σ' M') (h' : Imp n σ' M' σ'' M'') : Imp n σ M σ'' M'' := fun _ _ _ _ _ _ hs => h' _ _ _ _ _ _ (h _ _ _ _ _ _ hs)

theorem imp_drop' {n : Nat} {σ : Slots} {M : Tab} (x : Nat) : Imp n σ M (scrS x σ) (fun j => if j = x then none else scrM x M j) := by
  rintro B0 X I0 w0 a w ⟨Im, β, h⟩
  have hag : AgreeBut x β β M (fun j => if j = x then none else scrM x M j) := by
    intro id hid hs
    obtain ⟨e, he⟩ := Option.isSome_iff_exists.1 hs
    refine ⟨rfl, by simp [hid, scrM, he], ?_⟩
    simp only [hid, if_false, scrM, he, Option.map_some, Option.bind_some]
    cases e <;> simp [Ent.scr, Ent.len]
  have hget : ∀ {j e}, (if j = x then none else scrM x M j) = some e → j ≠ x ∧ ∃ e0, M j = some e0 ∧ e = e0.scr x := by
    intro j e hj
    by_cases hjx : j = x
    · simp [hjx] at hj
    · simp only [hjx, if_false, scrM, Option.map_eq_some_iff] at hj
      obtain ⟨e0, h1, h2⟩ := hj
      exact ⟨hjx, e0, h1, h2.symm⟩
  refine ⟨Im, β, { defers := h.defers, size := h.size, slots := ?_, hi := ?_, im := h.im, tab := ?_, own := ?_, inj := ?_, base := h.base, fr := h.fr, imo := h.imo, pin := h.pin, small := h.small }⟩
  · exact fun i hi => Rv_scr (fun _ _ _ => rfl) (fun _ hb => hb) hag _ _ (h.slots i hi)
  · intro i hi; rcases h.hi i hi with e | e <;> simp [scrS, e, scr]
  · intro j e hj
    obtain ⟨hjx, e0, he0, rfl⟩ := hget hj
    exact EntOk_scr (fun _ _ _ => rfl) (fun _ hb => hb) hag (fun hn => h.not_im he0 hn) (fun _ => rfl) e0 (h.tab j e0 he0)
  · intro j e hj hn
    obtain ⟨_, e0, he0, rfl⟩ := hget hj
    exact h.own j e0 he0 hn
  · intro j j' hj hj' hn hn' he
    obtain ⟨e, hje⟩ := Option.isSome_iff_exists.1 hj
    obtain ⟨e', hje'⟩ := Option.isSome_iff_exists.1 hj'
    obtain ⟨_, e0, he0, _⟩ := hget hje
    obtain ⟨_, e1, he1, _⟩ := hget hje'
    exact h.inj j j' (by simp [he0]) (by simp [he1]) hn hn' he

theorem imp_drop {n : Nat} {l : List (Nat × D)} {m : List (Nat × Ent)} {σ' : Slots} {M' : Tab} (x : Nat) (h : Imp n (mk (scrP x l)) (mkT (del x (scrT x m))) σ' M') : Imp n (mk l) (mkT m) σ' M' := by
  refine Imp.trans (imp_drop' x) ?_
  have e1 : (fun j => if j = x then none else scrM x (mkT m) j) = mkT (del x (scrT x m)) := by
    funext j; rw [mkT_del, ← scrM_mkT]
  rw [e1, scrS_mk]
  exact h

def Keep (l : List (Nat × D)) : List (Nat × D) → Prop
  | [] => True
  | (i, d) :: r => mk l i = d ∧ Keep l r
def KeepT (m : List (Nat × Ent)) : List (Nat × Ent) → Prop
  | [] => True
  | (i, e) :: r => mkT m i = some e ∧ KeepT m r
theorem keep_get {l : List (Nat × D)} : ∀ {l' : List (Nat × D)} (i : Nat), Keep l l' → mk l' i = mk l i ∨ mk l' i = .any
  | [], i, _ => .inr rfl
  | (j, d) :: r, i, h => by
    simp only [Keep] at h
    simp only [mk]
    split
    · rename_i e; subst e; exact .inl h.1.symm
    · exact keep_get i h.2
theorem keepT_get {m : List (Nat × Ent)} : ∀ {m' : List (Nat × Ent)} (i : Nat), KeepT m m' → (mkT m' i).isSome = true → mkT m' i = mkT m i
  | [], i, _, h => by simp [mkT] at h
  | (j, d) :: r, i, h, hs => by
    simp only [KeepT] at h
    simp only [mkT] at hs ⊢
    split
    · rename_i e; subst e; exact h.1.symm
    · rename_i e; rw [if_neg e] at hs; exact keepT_get i h.2 hs
def keysIn (m m' : List (Nat × Ent)) : Bool := m.all fun p => m'.any fun q => q.1 == p.1
theorem keysIn_get {m' : List (Nat × Ent)} : ∀ {m : List (Nat × Ent)} (i : Nat), keysIn m m' = true → (mkT m i).isSome = true → (mkT m' i).isSome = true := by
  have key : ∀ (r : List (Nat × Ent)) (i : Nat), (r.any fun q => q.1 == i) = true → (mkT r i).isSome = true := by
    intro r i h
    induction r with
    | nil => simp at h
    | cons q r ih =>
      obtain ⟨j, e⟩ := q
      simp only [mkT]
      split
      · rfl
      · rename_i hne
        simp only [List.any_cons, Bool.or_eq_true, beq_iff_eq] at h
        rcases h with h | h
        · exact absurd h.symm hne
        · exact ih h
  intro m i h hs
  induction m with
  | nil => simp [mkT] at hs
  | cons q r ih =>
    obtain ⟨j, e⟩ := q
    simp only [keysIn, List.all_cons, Bool.and_eq_true] at h
    simp only [mkT] at hs
    split at hs
    · rename_i e'; subst e'; exact key m' i h.1
    · exact ih h.2 hs
theorem imp_keep {n : Nat} {l l' : List (Nat × D)} {m m' : List (Nat × Ent)} (h : Keep l l') (hT : KeepT m m') (hk : keysIn m m' = true) : Imp n (mk l) (mkT m) (mk l') (mkT m') := by
  have : mkT m' = mkT m := by
    funext i
    cases hm : mkT m i with
    | none =>
      cases hm' : mkT m' i with
      | none => rfl
      | some e => rw [← hm', keepT_get i hT (by simp [hm']), hm]
    | some e => rw [← hm]; exact keepT_get i hT (keysIn_get i hk (by simp [hm]))
  rw [this]
  exact imp_any fun i => keep_get i h

def Rnd {α : Type} (n : Nat) (Q : Ex → Slots → Tab → Prop) (S : α → List (Nat × D)) (T : α → List (Nat × Ent)) (I : α → Prop) (μ : α → Nat) (k : Nat) : Ex → Slots → Tab → Prop
  | .normal, σ, M => ∃ a, Imp n σ M (mk (S a)) (mkT (T a)) ∧ I a ∧ μ a < k
  | .exit i, σ, M => Q (.exit i) σ M
  | .ret, σ, M => Q .ret σ M
section
variable {α : Type} {P : Program} {n : Nat} {Q : Ex → Slots → Tab → Prop} {S : α → List (Nat × D)} {T : α → List (Nat × Ent)} {I : α → Prop} {μ : α → Nat} {k : Nat} {σ : Slots} {M : Tab}
theorem k_rndX {i : Nat} (h : Q (.exit i) σ M) : Rnd n Q S T I μ k (.exit i) σ M := h
theorem k_rndR (h : Q .ret σ M) : Rnd n Q S T I μ k .ret σ M := h
theorem k_rnd (a : α) (h : Imp n σ M (mk (S a)) (mkT (T a))) (hi : I a) (hm : μ a < k) : Rnd n Q S T I μ k .normal σ M := ⟨a, h, hi, hm⟩
end
theorem t_loop {α : Type} {P : Program} {n : Nat} {Q : Ex → Slots → Tab → Prop} {c : Code} {σ : Slots} {M : Tab} (S : α → List (Nat × D)) (T : α → List (Nat × Ent)) (I : α → Prop) (μ : α → Nat) (a0 : α)
    (hi : Imp n σ M (mk (S a0)) (mkT (T a0))) (h0 : I a0) (round : ∀ a, I a → Tr P n c (Rnd n Q S T I μ (μ a)) (mk (S a)) (mkT (T a))) : Tr P n (.loop c) Q σ M := by
  refine Tr.weak hi ?_
  intro B0 X I0 w0 a w hs b kk cs
  have key : ∀ (k : Nat) (x : α) (a : Act) (w : World), μ x = k → I x → St B0 X I0 w0 n (mk (S x)) (mkT (T x)) a w →
      ∃ e a' w', (∃ x σ' M', St B0 X I0 w0 n σ' M' a' w' ∧ Q x σ' M' ∧ match x with | .normal => e = .normal | .exit id => e = .exit id | .ret => e = .ret) ∧ Arrives P (lone (b.at a (.code c :: .inLoop c :: kk)) cs w) b kk cs e a' w' := by
    intro k
    induction k using Nat.strongRecOn with
    | _ k ih =>
      intro y a w hk hI hs
      obtain ⟨e, a1, w1, hq, harr⟩ := round y hI B0 X I0 w0 a w hs b (.inLoop c :: kk) cs
      obtain ⟨x, σ', M', h1, h2, h3⟩ := hq
      cases x with
      | normal =>
        simp only at h3
        subst h3
        obtain ⟨y', hi, hI', hlt⟩ := h2
        obtain ⟨e2, a2, w2, hq2, harr2⟩ := ih (μ y') (by omega) y' a1 w1 rfl hI' (hi _ _ _ _ _ _ h1)
        exact ⟨e2, a2, w2, hq2, .of_steps (Steps.trans harr (.one step_inLoop)) harr2⟩
      | exit id => simp only at h3; subst h3; exact ⟨_, a1, w1, ⟨.exit id, σ', M', h1, h2, rfl⟩, .pass (x := .inLoop c) rfl (fun _ _ => .inl (by simp)) harr⟩
      | ret => simp only at h3; subst h3; exact ⟨_, a1, w1, ⟨.ret, σ', M', h1, h2, rfl⟩, .pass (x := .inLoop c) rfl (fun _ _ => .inl (by simp)) harr⟩
  obtain ⟨e, a', w', hq, harr⟩ := key _ a0 a w rfl h0 hs
  exact ⟨e, a', w', hq, .of_steps (.one step_loop) harr⟩
end Go.Proofs.YtmiclkgkfkcnoaaGreat

/- A contract whose new rows are only read from now on. -/
namespace Go.Proofs.YtmiclkgkfkcnoaaGreat
open Go.RowKit

theorem ACall.ro {P : Program} {f : FuncId} {ds : List D} {r : D} {rs : List (List (List D))} (h : ACall P f ds r rs) : ACall P f ds (view (tabOf rs) r) [] := by
  refine ⟨h.1, fun w vs Im him hvs => (h.2 w vs Im him hvs).mono ?_⟩
  rintro e w' ⟨v, he, hb, Im', β, h1, h2, h3, h4, h5⟩
  have hblk : ∀ k rows, rs[k]? = some rows → (β k).nil = false → (β k).blk < w'.heap.size := by
    intro k rows hk hn
    have := (h4 k rows hk).1
    simp only [EntOk] at this
    rcases this with ⟨g1, _⟩ | ⟨_, _, _, _, cur, e, g5, _⟩
    · rw [hn] at g1; cases g1
    · exact (Array.getElem?_eq_some_iff.1 g5).1
  refine ⟨v, he, hb, fun b => Im' b ∨ ∃ k, k < rs.length ∧ (β k).nil = false ∧ b = (β k).blk, β, ?_, ?_, ?_, by simp, by simp⟩
  · rintro b (hb | ⟨k, hk, hn, rfl⟩)
    · exact h1 b hb
    · exact .inr ((h4 k rs[k] (by simp [hk])).2 hn)
  · rintro b (hb | ⟨k, hk, hn, rfl⟩)
    · exact h2 b hb
    · exact hblk k rs[k] (by simp [hk]) hn
  · refine Rv_of_Rc _ _ (Rc_viewG (fun b hb => .inl hb) ?_ r v h3)
    intro id rows hid
    simp only [tabOf, Option.map_eq_some_iff, Ent.row.injEq] at hid
    obtain ⟨rows', h6, rfl⟩ := hid
    exact Rc_of_rows (fun b hb => .inl hb) (fun hn => .inr ⟨id, (List.getElem?_eq_some_iff.1 h6).1, hn, rfl⟩) (h4 id rows' h6).1
end Go.Proofs.YtmiclkgkfkcnoaaGreat

/- A row that is only read from now on; a nil slice as an own row. -/
namespace Go.Proofs.YtmiclkgkfkcnoaaGreat
open Go.RowKit

mutual
def frz (x : Nat) (rows : List (List D)) : D → D
  | .ptr j i off => if j = x then .any else .ptr j i off
  | .fs j => if j = x then .sl rows else .fs j
  | .agg cs => .agg (frzL x rows cs)
  | .tup cs => .tup (frzL x rows cs)
  | .int k n => .int k n
  | .bool b => .bool b
  | .str s => .str s
  | .nov => .nov
  | .any => .any
  | .nl => .nl
  | .sl rows => .sl rows
  | .ep row off => .ep row off
  | .fp j lo n => if j = x then .any else .fp j lo n
def frzL (x : Nat) (rows : List (List D)) : List D → List D
  | [] => []
  | d :: ds => frz x rows d :: frzL x rows ds
end
def Ent.frz (x : Nat) (rows : List (List D)) : Ent → Ent
  | .row r => .row r
  | .box cells => .box (frzL x rows cells)

section
variable {w : World} {Im Im' : Nat → Prop} {β : Nat → RowG} {M M' : Nat → Option Ent}
mutual
theorem Rv_frz {x : Nat} {rows : List (List D)} (hi : ∀ b, Im b → Im' b) (ha : AgreeBut x β β M M') (hx : M x = some (.row rows)) (hr : Rc w Im' (.sl rows) ((β x).val rows.length)) : ∀ (d : D) (v : Value), Rv w Im β M d v → Rv w Im' β M' (frz x rows d) v
  | .int .., _, h | .bool _, _, h | .str _, _, h | .nov, _, h | .any, _, h | .nl, _, h | .sl _, _, h | .ep .., _, h => by
    simp only [Rv, frz] at h ⊢
    exact Rc_mono (fun _ _ _ => rfl) hi _ _ h
  | .ptr id i off, v, h => by
    by_cases e : id = x
    · simp [frz, e, Rv, Rc]
    · simp only [Rv, frz, if_neg e] at h ⊢
      obtain ⟨h1, h2, rfl⟩ := h
      obtain ⟨e1, e2, _⟩ := ha id e h1
      exact ⟨e2, h2, rfl⟩
  | .fp id lo n, v, h => by
    by_cases e : id = x
    · simp [frz, e, Rv, Rc]
    · simp only [Rv, frz, if_neg e] at h ⊢
      obtain ⟨h0, ⟨m, h1, h2⟩, h3⟩ := h
      obtain ⟨e1, _, e3⟩ := ha id e (bind_len_isSome h1)
      rw [e3]
      exact ⟨h0, ⟨m, h1, h2⟩, h3⟩
  | .fs id, v, h => by
    by_cases e : id = x
    · subst e
      simp only [Rv] at h
      obtain ⟨n, h1, rfl⟩ := h
      simp only [hx, Option.bind_some, Ent.len, Option.some.injEq] at h1
      subst h1
      simp only [frz, if_true, Rv]
      exact hr
    · simp only [Rv, frz, if_neg e] at h ⊢
      obtain ⟨n, h1, rfl⟩ := h
      obtain ⟨e1, _, e3⟩ := ha id e (bind_len_isSome h1)
      rw [e3]
      exact ⟨n, h1, rfl⟩
  | .agg cs, v, h => by
    simp only [Rv, frz] at h ⊢
    obtain ⟨a, rfl, h⟩ := h
    exact ⟨a, rfl, RvL_frz hi ha hx hr cs a h⟩
  | .tup cs, v, h => by
    simp only [Rv, frz] at h ⊢
    obtain ⟨a, rfl, h⟩ := h
    exact ⟨a, rfl, RvL_frz hi ha hx hr cs a h⟩
theorem RvL_frz {x : Nat} {rows : List (List D)} (hi : ∀ b, Im b → Im' b) (ha : AgreeBut x β β M M') (hx : M x = some (.row rows)) (hr : Rc w Im' (.sl rows) ((β x).val rows.length)) : ∀ (ds : List D) (vs : List Value), RvL w Im β M ds vs → RvL w Im' β M' (frzL x rows ds) vs
  | [], _, h => by simpa [RvL, frzL] using h
  | d :: ds, vs, h => by
    simp only [RvL, frzL] at h ⊢
    obtain ⟨v, r, rfl, h1, h2⟩ := h
    exact ⟨v, r, rfl, Rv_frz hi ha hx hr d v h1, RvL_frz hi ha hx hr ds r h2⟩
end
end

def frzP (x : Nat) (rows : List (List D)) : List (Nat × D) → List (Nat × D)
  | [] => []
  | (i, d) :: l => (i, frz x rows d) :: frzP x rows l
def frzT (x : Nat) (rows : List (List D)) : List (Nat × Ent) → List (Nat × Ent)
  | [] => []
  | (i, e) :: l => (i, e.frz x rows) :: frzT x rows l
theorem frzS_mk (x : Nat) (rows : List (List D)) : ∀ (l : List (Nat × D)), (fun j => frz x rows (mk l j)) = mk (frzP x rows l)
  | [] => by funext j; simp [mk, frzP, frz]
  | (i, d) :: l => by
    funext j
    have := congrFun (frzS_mk x rows l) j
    simp only [mk, frzP] at this ⊢
    split
    · rfl
    · exact this
theorem frzM_mkT (x : Nat) (rows : List (List D)) : ∀ (l : List (Nat × Ent)), (fun j => (mkT l j).map (Ent.frz x rows)) = mkT (frzT x rows l)
  | [] => by funext j; simp [mkT, frzT]
  | (i, e) :: l => by
    funext j
    have := congrFun (frzM_mkT x rows l) j
    simp only [mkT, frzT] at this ⊢
    split
    · rfl
    · exact this

theorem imp_freeze' {n : Nat} {σ : Slots} {M : Tab} (x : Nat) {rows : List (List D)} (hx : M x = some (.row rows)) : Imp n σ M (fun j => frz x rows (σ j)) (fun j => if j = x then none else (M j).map (Ent.frz x rows)) := by
  rintro B0 X I0 w0 a w ⟨Im, β, h⟩
  have hag : AgreeBut x β β M (fun j => if j = x then none else (M j).map (Ent.frz x rows)) := by
    intro id hid hs
    obtain ⟨e, he⟩ := Option.isSome_iff_exists.1 hs
    refine ⟨rfl, by simp [hid, he], ?_⟩
    simp only [hid, if_false, he, Option.map_some, Option.bind_some]
    cases e <;> simp [Ent.frz, Ent.len]
  have hget : ∀ {j e}, (if j = x then none else (M j).map (Ent.frz x rows)) = some e → j ≠ x ∧ ∃ e0, M j = some e0 ∧ e = e0.frz x rows := by
    intro j e hj
    by_cases hjx : j = x
    · simp [hjx] at hj
    · simp only [hjx, if_false, Option.map_eq_some_iff] at hj
      obtain ⟨e0, h1, h2⟩ := hj
      exact ⟨hjx, e0, h1, h2.symm⟩
  have hI : ∀ b, Im b → (Im b ∨ ((β x).nil = false ∧ b = (β x).blk)) := fun b hb => .inl hb
  have hr : Rc w (fun b => Im b ∨ ((β x).nil = false ∧ b = (β x).blk)) (.sl rows) ((β x).val rows.length) := Rc_of_rows hI (fun hn => .inr ⟨hn, rfl⟩) (h.tab x _ hx)
  refine ⟨fun b => Im b ∨ ((β x).nil = false ∧ b = (β x).blk), β, { defers := h.defers, size := h.size, slots := ?_, hi := ?_, im := ?_, tab := ?_, own := ?_, inj := ?_, base := h.base, fr := h.fr, imo := ?_, pin := h.pin, small := h.small }⟩
  · exact fun i hi => Rv_frz hI hag hx hr _ _ (h.slots i hi)
  · intro i hi; rcases h.hi i hi with e | e <;> simp [e, frz]
  · rintro b (hb | ⟨hn, rfl⟩)
    · exact h.im b hb
    · exact h.blk_lt hx hn
  · intro j e hj
    obtain ⟨hjx, e0, he0, rfl⟩ := hget hj
    have hnot : (β j).nil = false → ¬ (Im (β j).blk ∨ ((β x).nil = false ∧ (β j).blk = (β x).blk)) := by
      rintro hn (hb | ⟨hn', he⟩)
      · exact h.not_im he0 hn hb
      · exact hjx (h.inj j x (by simp [he0]) (by simp [hx]) hn hn' he)
    have hok := h.tab j e0 he0
    cases e0 with
    | row r =>
      simp only [EntOk, Ent.frz] at hok ⊢
      refine hok.imp id ?_
      rintro ⟨h1, h2, h3, h4, cur, e, h5, h6, h7, h8⟩
      exact ⟨h1, hnot h1, h3, h4, cur, e, h5, h6, h7, RcRowsL_mono (fun _ _ _ => rfl) hI _ _ _ h8⟩
    | box cells =>
      simp only [EntOk, Ent.frz] at hok ⊢
      obtain ⟨h1, h2, cur, e, h3, h4, h5⟩ := hok
      exact ⟨h1, hnot h1, cur, e, h3, h4, RvL_frz hI hag hx hr _ _ h5⟩
  · intro j e hj hn
    obtain ⟨_, e0, he0, rfl⟩ := hget hj
    exact h.own j e0 he0 hn
  · intro j j' hj hj' hn hn' he
    obtain ⟨e, hje⟩ := Option.isSome_iff_exists.1 hj
    obtain ⟨e', hje'⟩ := Option.isSome_iff_exists.1 hj'
    obtain ⟨_, e0, he0, _⟩ := hget hje
    obtain ⟨_, e1, he1, _⟩ := hget hje'
    exact h.inj j j' (by simp [he0]) (by simp [he1]) hn hn' he
  · rintro b (hb | ⟨hn, rfl⟩)
    · exact h.imo b hb
    · exact .inr (h.own x _ hx hn)

theorem imp_freeze {n : Nat} {l : List (Nat × D)} {m : List (Nat × Ent)} {σ' : Slots} {M' : Tab} (x : Nat) {rows : List (List D)} (hx : mkT m x = some (.row rows)) (h : Imp n (mk (frzP x rows l)) (mkT (del x (frzT x rows m))) σ' M') : Imp n (mk l) (mkT m) σ' M' := by
  refine Imp.trans (imp_freeze' x hx) ?_
  have e1 : (fun j => if j = x then none else (mkT m j).map (Ent.frz x rows)) = mkT (del x (frzT x rows m)) := by
    funext j; rw [mkT_del, ← frzM_mkT]
  rw [e1, frzS_mk]
  exact h

theorem imp_nil {n : Nat} {l : List (Nat × D)} {m : List (Nat × Ent)} {σ' : Slots} {M' : Tab} (slot x : Nat) (hs : mk l slot = .nl) (hx : mkT m x = none) (h : Imp n (mk ((slot, .fs x) :: l)) (mkT ((x, .row []) :: m)) σ' M') (hlo : x < 900 ∨ 1000 ≤ x := by decide) : Imp n (mk l) (mkT m) σ' M' := by
  refine Imp.trans ?_ h
  clear h
  rintro B0 X I0 w0 a w ⟨Im, β, h⟩
  have hag : Agree β (upd β x ⟨0, 0, 0, true⟩) (mkT m) (mkT ((x, .row []) :: m)) := by
    intro id hs
    have hne : id ≠ x := fun e => by rw [e, hx] at hs; cases hs
    simp [upd, mkT, hne, hs]
  have hget : ∀ {j e}, mkT ((x, Ent.row []) :: m) j = some e → (j = x ∧ e = .row []) ∨ (j ≠ x ∧ mkT m j = some e) := by
    intro j e hj
    simp only [mkT] at hj
    split at hj
    · rename_i e1; cases hj; exact .inl ⟨e1, rfl⟩
    · rename_i e1; exact .inr ⟨e1, hj⟩
  refine ⟨Im, upd β x ⟨0, 0, 0, true⟩, { defers := h.defers, size := h.size, slots := ?_, hi := ?_, im := h.im, tab := ?_, own := ?_, inj := ?_, base := h.base, fr := h.fr, imo := h.imo, pin := fun j g' hj => by rw [upd_ne _ _ (fun e => by rw [e, X.lo x hlo] at hj; cases hj)]; exact h.pin j g' hj, small := h.small }⟩
  · intro i hi
    by_cases e : i = slot
    · subst e
      have := h.slots i hi
      rw [hs] at this
      simp only [Rv, Rc] at this
      simp [mk, Rv, this, mkT, Ent.len, upd, RowG.val]
    · simp only [mk, if_neg e]
      exact Rv_mono (fun _ _ _ => rfl) (fun _ hb => hb) hag _ _ (h.slots i hi)
  · intro i hi
    by_cases e : i = slot
    · subst e
      rcases h.hi i hi with e | e <;> rw [hs] at e <;> cases e
    · simp only [mk, if_neg e]; exact h.hi i hi
  · intro j e hj
    rcases hget hj with ⟨rfl, rfl⟩ | ⟨hne, hj⟩
    · simp [EntOk, upd]
    · rw [upd_ne _ _ hne]
      exact EntOk_mono (fun _ _ _ => rfl) (fun _ hb => hb) hag (fun hn => h.not_im hj hn) (fun _ => rfl) _ (h.tab j e hj)
  · intro j e hj hn
    rcases hget hj with ⟨rfl, rfl⟩ | ⟨hne, hj⟩
    · simp [upd] at hn
    · rw [upd_ne _ _ hne] at hn ⊢
      exact h.own j e hj hn
  · intro j j' hj hj' hn hn' he
    obtain ⟨e, hje⟩ := Option.isSome_iff_exists.1 hj
    obtain ⟨e', hje'⟩ := Option.isSome_iff_exists.1 hj'
    rcases hget hje with ⟨rfl, _⟩ | ⟨hne, hj1⟩
    · simp [upd] at hn
    · rcases hget hje' with ⟨rfl, _⟩ | ⟨hne', hj2⟩
      · simp [upd] at hn'
      · rw [upd_ne _ _ hne] at hn he
        rw [upd_ne _ _ hne'] at hn' he
        exact h.inj j j' (by simp [hj1]) (by simp [hj2]) hn hn' he

theorem imp_move {n : Nat} {l : List (Nat × D)} {m : List (Nat × Ent)} {σ' : Slots} {M' : Tab} (slot x y : Nat) {rows : List (List D)} (hs : mk l slot = .fs x) (hx : mkT m x = some (.row rows)) (hy : mkT (del x (scrT x m)) y = none) (h : Imp n (mk ((slot, .fs y) :: scrP x l)) (mkT ((y, .row rows) :: del x (scrT x m))) σ' M') (hlo : y < 900 ∨ 1000 ≤ y := by decide) : Imp n (mk l) (mkT m) σ' M' := by
  refine Imp.trans ?_ h
  clear h
  rintro B0 X I0 w0 a w ⟨Im, β, h⟩
  have hdel : ∀ j, mkT (del x (scrT x m)) j = if j = x then none else scrM x (mkT m) j := by intro j; rw [mkT_del, ← scrM_mkT]
  have hag : AgreeBut x β (upd β y (β x)) (mkT m) (mkT ((y, .row rows) :: del x (scrT x m))) := by
    intro id hid hsid
    obtain ⟨e, he⟩ := Option.isSome_iff_exists.1 hsid
    have hd : mkT (del x (scrT x m)) id = some (e.scr x) := by rw [hdel, if_neg hid]; simp [scrM, he]
    have hne : id ≠ y := fun hh => by rw [hh, hy] at hd; cases hd
    refine ⟨upd_ne _ _ hne, by simp [mkT, hne, hd], ?_⟩
    simp only [mkT, hne, if_false, hd, he, Option.bind_some, Ent.len_scr]
  have hget : ∀ {j e}, mkT ((y, Ent.row rows) :: del x (scrT x m)) j = some e → (j = y ∧ e = .row rows) ∨ (j ≠ y ∧ j ≠ x ∧ ∃ e0, mkT m j = some e0 ∧ e = e0.scr x) := by
    intro j e hj
    simp only [mkT] at hj
    split at hj
    · rename_i e1; cases hj; exact .inl ⟨e1, rfl⟩
    · rename_i e1
      rw [hdel] at hj
      split at hj
      · cases hj
      · rename_i e2
        simp only [scrM, Option.map_eq_some_iff] at hj
        obtain ⟨e0, h1, h2⟩ := hj
        exact .inr ⟨e1, e2, e0, h1, h2.symm⟩
  refine ⟨Im, upd β y (β x), { defers := h.defers, size := h.size, slots := ?_, hi := ?_, im := h.im, tab := ?_, own := ?_, inj := ?_, base := h.base, fr := h.fr, imo := h.imo, pin := fun j g' hj => by rw [upd_ne _ _ (fun e => by rw [e, X.lo y hlo] at hj; cases hj)]; exact h.pin j g' hj, small := h.small }⟩
  · intro i hi
    by_cases e : i = slot
    · subst e
      have := h.slots i hi
      rw [hs] at this
      simp only [Rv, hx, Option.bind_some, Ent.len, Option.some.injEq] at this
      obtain ⟨k, rfl, hv⟩ := this
      simp [mk, Rv, mkT, Ent.len, upd, hv]
    · simp only [mk, if_neg e]
      rw [← scrS_mk]
      exact Rv_scr (fun _ _ _ => rfl) (fun _ hb => hb) hag _ _ (h.slots i hi)
  · intro i hi
    by_cases e : i = slot
    · subst e
      rcases h.hi i hi with e | e <;> rw [hs] at e <;> cases e
    · simp only [mk, if_neg e]
      rw [← scrS_mk]
      rcases h.hi i hi with e | e <;> simp [scrS, e, scr]
  · intro j e hj
    rcases hget hj with ⟨rfl, rfl⟩ | ⟨hne, hnx, e0, he0, rfl⟩
    · rw [upd_same]
      simpa only [EntOk] using h.tab x _ hx
    · rw [upd_ne _ _ hne]
      exact EntOk_scr (fun _ _ _ => rfl) (fun _ hb => hb) hag (fun hn => h.not_im he0 hn) (fun _ => rfl) e0 (h.tab j e0 he0)
  · intro j e hj hn
    rcases hget hj with ⟨rfl, rfl⟩ | ⟨hne, hnx, e0, he0, rfl⟩
    · rw [upd_same] at hn ⊢; exact h.own x _ hx hn
    · rw [upd_ne _ _ hne] at hn ⊢; exact h.own j e0 he0 hn
  · intro j j' hj hj' hn hn' he
    obtain ⟨e, hje⟩ := Option.isSome_iff_exists.1 hj
    obtain ⟨e', hje'⟩ := Option.isSome_iff_exists.1 hj'
    rcases hget hje with ⟨rfl, _⟩ | ⟨hne, hnx, e0, he0, _⟩ <;> rcases hget hje' with ⟨h1, _⟩ | ⟨hne', hnx', e0', he0', _⟩
    · exact h1.symm
    · rw [upd_same] at hn he
      rw [upd_ne _ _ hne'] at hn' he
      exact absurd (h.inj x j' (by rw [hx]; rfl) (by rw [he0']; rfl) hn hn' he).symm hnx'
    · subst h1
      rw [upd_same] at hn' he
      rw [upd_ne _ _ hne] at hn he
      exact absurd (h.inj j x (by rw [he0]; rfl) (by rw [hx]; rfl) hn hn' he) hnx
    · rw [upd_ne _ _ hne] at hn he
      rw [upd_ne _ _ hne'] at hn' he
      exact h.inj j j' (by rw [he0]; rfl) (by rw [he0']; rfl) hn hn' he
end Go.Proofs.YtmiclkgkfkcnoaaGreat

/- Names for many small laws at once, for the steps of the proofs. -/
namespace Go.Proofs.YtmiclkgkfkcnoaaGreat
open Go.RowKit

theorem bA : (∀ (l : List (Nat × D)) (i : Nat) (d : D), upd (mk l) i d = mk ((i, d) :: l)) ∧
    (∀ (l : List (Nat × Ent)) (i : Nat) (e : Ent), upd (mkT l) i (some e) = mkT ((i, e) :: del i l)) ∧
    (∀ (j : Nat), mk [] j = D.any) ∧
    (∀ (i : Nat) (d : D) (l : List (Nat × D)) (j : Nat), mk ((i, d) :: l) j = if j = i then d else mk l j) ∧
    (∀ (j : Nat), mkT [] j = none) ∧
    (∀ (i : Nat) (e : Ent) (l : List (Nat × Ent)) (j : Nat), mkT ((i, e) :: l) j = if j = i then some e else mkT l j) ∧
    (∀ (id : Nat) (l : List (Nat × D)), scrS id (mk l) = mk (scrP id l)) ∧
    (∀ (id : Nat) (l : List (Nat × Ent)), scrM id (mkT l) = mkT (scrT id l)) ∧
    (∀ (id : Nat), scrP id [] = []) ∧
    (∀ (id i : Nat) (d : D) (l : List (Nat × D)), scrP id ((i, d) :: l) = (i, scr id d) :: scrP id l) ∧
    (∀ (id : Nat), scrT id [] = []) ∧
    (∀ (id i : Nat) (e : Ent) (l : List (Nat × Ent)), scrT id ((i, e) :: l) = (i, Ent.scr id e) :: scrT id l) ∧
    (∀ (x : Nat), del x ([] : List (Nat × D)) = []) ∧
    (∀ (x i : Nat) (e : D) (l : List (Nat × D)), del x ((i, e) :: l) = if i = x then del x l else (i, e) :: del x l) ∧
    (∀ (x : Nat), del x ([] : List (Nat × Ent)) = []) ∧
    (∀ (x i : Nat) (e : Ent) (l : List (Nat × Ent)), del x ((i, e) :: l) = if i = x then del x l else (i, e) :: del x l) :=
  ⟨upd_mk, upd_mkT, mk_nil, mk_cons, mkT_nil, mkT_cons, scrS_mk, scrM_mkT, scrP_nil, scrP_cons, scrT_nil, scrT_cons, del_nil, del_cons, del_nil, del_cons⟩
theorem bB : (∀ {α : Type} {a : α} {l : List α} {f : α → Bool}, (a :: l).all f = (f a && l.all f)) ∧
    (∀ {α : Type} {f : α → Bool}, [].all f = true) ∧
    (∀ (b : Bool), (b && true) = b) ∧ (∀ (b : Bool), (true && b) = b) ∧ (∀ (b : Bool), (b && b) = b) ∧
    (∀ {α : Type} {a : α} {as : List α}, (a :: as).length = as.length + 1) ∧ (∀ {α : Type}, ([] : List α).length = 0) ∧
    (∀ {α : Type} {a : α} {as : List α} {i : Nat}, List.take (i + 1) (a :: as) = a :: List.take i as) ∧
    (∀ {α : Type} {l : List α}, List.take 0 l = []) ∧
    (∀ {α : Type} {a : α} {l : List α} {i : Nat}, List.drop (i + 1) (a :: l) = List.drop i l) ∧
    (∀ {α : Type} {l : List α}, List.drop 0 l = l) ∧ (∀ {α : Type} {i : Nat}, List.take i ([] : List α) = []) ∧ (∀ {α : Type} {i : Nat}, List.drop i ([] : List α) = []) ∧
    (∀ {α : Type} (l : List α), [] ++ l = l) ∧ (∀ {α : Type} {a : α} {l m : List α}, (a :: l) ++ m = a :: (l ++ m)) ∧ (∀ {α : Type} (l : List α), l ++ [] = l) ∧
    (∀ {α : Type} {x : α} {l : List α} {d : α}, (x :: l).getD 0 d = x) ∧ (∀ {α : Type} {x : α} {l : List α} {n : Nat} {d : α}, (x :: l).getD (n + 1) d = l.getD n d) ∧
    (∀ {α β : Type} {f : α → β} {a : α} {l : List α}, (a :: l).map f = f a :: l.map f) ∧ (∀ {α β : Type} {f : α → β}, [].map f = []) ∧
    (∀ {α : Type} {a : α} {l : List α}, (a :: l)[0]? = some a) ∧ (∀ {α : Type} {a : α} {i : Nat} {l : List α}, (a :: l)[i + 1]? = l[i]?) ∧
    (∀ {α β : Type} {l : List α} (f : α → β), (l.map f).length = l.length) ∧
    (∀ (n : Nat), Int.toNat n = n) ∧ (∀ (n : Nat), (0 : Int) ≤ n) ∧
    (∀ {α : Type} (a b : α), (some a = some b) = (a = b)) ∧ (∀ (a b : List (List D)), (Ent.row a = Ent.row b) = (a = b)) :=
  ⟨List.all_cons, List.all_nil, Bool.and_true, Bool.true_and, Bool.and_self, List.length_cons, List.length_nil, List.take_succ_cons, List.take_zero, List.drop_succ_cons, List.drop_zero, List.take_nil, List.drop_nil, List.nil_append, List.cons_append, List.append_nil, List.getD_cons_zero, List.getD_cons_succ, List.map_cons, List.map_nil, List.getElem?_cons_zero, List.getElem?_cons_succ, List.length_map, Int.toNat_natCast, Int.natCast_nonneg, fun a b => by simp, fun a b => by simp⟩
end Go.Proofs.YtmiclkgkfkcnoaaGreat
