/- The evaluator: regions that draw their order, loops, arguments. -/
import Derived.Test.YtgdldeggoflabaaMM
import Derived.Still
import Derived.ProofKit
import Derived.StillTail
import Derived.ChangeKeysEq
/- Regions that draw their order: one walk in the text's order serves every order, where the operations only read or call. -/
namespace Go.Proofs.Ytgdldeggoflabaa
open Go.RowKit

/-- the value of an operation that changes nothing that is known -/
def hv (P : Program) (M : Tab) (ρ : Operand → D) (K : D → Prop) : Op → Prop
  | .call c =>
    match c.callee with
    | .value (.func f) => ∃ r, (ACall P f (viewL M (c.args.toList.map ρ)) r [] ∧ noPtr r = true ∧ noFs r = true ∧ (noFsL (c.args.toList.map ρ) = true ∨ noSl r = true)) ∧ K r
    | _ => qv P M ρ K (.call c)
  | .buildSlice t len parts =>
    match (tI P t).d with
    | .slice _ es _ ez => es ≠ 0 ∧ ez.length = es ∧ len = parts.size ∧ len * es ≤ 16777216 ∧ partsQ es 0 (parts.toList.map fun p => (p.1, ρ p.2)) fun rows => K (.sl rows)
    | _ => False
  | op => qv P M ρ K op

def evs (ρ : Operand → D) (ps : Array (Nat × Operand)) : List (Nat × D) := ps.toList.map fun p => (p.1, ρ p.2)

theorem fillQ_ex {places : Nat → Option (Nat × Nat)} : ∀ (ps : List (Nat × D)) (cells : List D) (K : List D → Prop), fillQ places cells ps K → ∃ cs, fillQ places cells ps (· = cs) ∧ K cs
  | [], cells, K, h => ⟨cells, rfl, h⟩
  | (i, d) :: ps, cells, K, h => by
    simp only [fillQ] at h ⊢
    split at h
    · rename_i hh; obtain ⟨h1, h2, h3⟩ := h
      obtain ⟨cs, h4, h5⟩ := fillQ_ex ps _ K h3
      exact ⟨cs, ⟨h1, h2, h4⟩, h5⟩
    · exact h.elim
theorem partsQ_ex {es : Nat} : ∀ (ps : List (Nat × D)) (k : Nat) (K : List (List D) → Prop), partsQ es k ps K → ∃ rs, partsQ es k ps (· = rs) ∧ K rs
  | [], k, K, h => ⟨[], rfl, h⟩
  | (i, d) :: ps, k, K, h => by
    simp only [partsQ] at h ⊢
    split at h
    · rename_i cs hh
      obtain ⟨h1, h2, h3, h4, h5⟩ := h
      obtain ⟨rs, h6, h7⟩ := partsQ_ex ps (k + 1) _ h5
      refine ⟨cs :: rs, ⟨h1, h2, h3, h4, ?_⟩, h7⟩
      exact partsQ_mono (fun x hx => by rw [hx]) ps (k + 1) h6
    · exact h.elim
where
  partsQ_mono {es : Nat} {K K' : List (List D) → Prop} (hK : ∀ x, K x → K' x) : ∀ (ps : List (Nat × D)) (k : Nat), partsQ es k ps K → partsQ es k ps K' := by
    intro ps
    induction ps generalizing K K' with
    | nil => intro k h; exact hK _ h
    | cons p ps ih =>
      intro k h
      obtain ⟨i, d⟩ := p
      simp only [partsQ] at h ⊢
      split
      · rename_i cs hh; simp only [hh] at h
        exact ⟨h.1, h.2.1, h.2.2.1, h.2.2.2.1, ih (fun x hx => hK _ hx) (k + 1) h.2.2.2.2⟩
      · rename_i hh; simp only [hh] at h

theorem ldQ_ex {ti : TI} {cells : List D} {off : Nat} {K : D → Prop} (h : ldQ ti cells off K) : ∃ d, ldQ ti cells off (· = d) ∧ K d := by
  unfold ldQ at *
  split at h
  · exact ⟨_, ⟨h.1, rfl⟩, h.2⟩
  · exact h.elim
  · exact ⟨_, ⟨h.1, rfl⟩, h.2⟩

theorem binQ_ex {P : Program} {t : TypeId} {op : BinOp} {x y : D} {K : D → Prop} (h : binQ P t op x y K) : ∃ d, binQ P t op x y (· = d) ∧ K d := by
  unfold binQ at *
  split at h
  · cases op <;> simp only [] at h ⊢
    all_goals first
      | exact ⟨_, ⟨h.1, h.2.1, rfl⟩, h.2.2⟩
      | exact ⟨_, ⟨h.1, rfl⟩, h.2⟩
  · cases op <;> simp only [] at h ⊢
    all_goals first
      | exact h.elim
      | exact ⟨_, ⟨h.1, rfl⟩, h.2⟩
  · cases op <;> simp only [] at h ⊢
    all_goals first
      | exact h.elim
      | exact ⟨_, ⟨h.1, rfl⟩, h.2⟩
      | exact ⟨_, rfl, h⟩
  · cases op <;> simp only [] at h ⊢
    all_goals first
      | exact h.elim
      | (obtain ⟨is, js, h1, h2, h3, h4, h5⟩ := h; exact ⟨_, ⟨is, js, h1, h2, h3, h4, rfl⟩, h5⟩)
  · exact h.elim

theorem qv_ex {P : Program} {M : Tab} {ρ : Operand → D} {K : D → Prop} {op : Op} (h : qv P M ρ K op) : ∃ d, qv P M ρ (· = d) op ∧ K d := by
  unfold qv at h
  split at h
  case h_1 x => exact ⟨_, by simp only [qv], h⟩
  case h_2 x => exact ⟨_, by simp only [qv], h⟩
  case h_3 c x y =>
    split at h
    · rename_i hc; simp only [qv, hc]; exact ⟨_, rfl, h⟩
    · exact h.elim
  case h_4 t x =>
    split at h
    · rename_i hc; simp only [qv, hc]; exact ⟨_, rfl, h⟩
    · exact h.elim
  case h_5 t x =>
    split at h
    · rename_i hc; simp only [qv, hc]; exact ⟨_, rfl, h⟩
    · exact h.elim
  case h_6 => simp only [qv]; exact binQ_ex h
  case h_7 src dst x =>
    split at h
    · rename_i h1 h2 h3; simp only [qv, h1, h2, h3]; exact ⟨_, rfl, h⟩
    · rename_i h1 h2 h3; simp only [qv, h1, h2, h3]; exact ⟨_, rfl, h⟩
    · rename_i h1 h2; simp only [qv, h1, h2]
      obtain ⟨g1, rows, s, g2, g3, g4⟩ := h
      exact ⟨_, ⟨g1, rows, s, g2, g3, rfl⟩, g4⟩
    · exact h.elim
  case h_8 t x =>
    split at h
    · rename_i hc; simp only [qv, hc]
      split at h
      · rename_i hM; (try simp only [hM]); obtain ⟨d, h1, h2⟩ := ldQ_ex h.2; exact ⟨d, ⟨h.1, h1⟩, h2⟩
      · rename_i hM; (try simp only [hM]); obtain ⟨d, h1, h2⟩ := ldQ_ex h.2; exact ⟨d, ⟨h.1, h1⟩, h2⟩
      · exact h.elim
    · rename_i hc; simp only [qv, hc]; exact ldQ_ex h
    · exact h.elim
  case h_9 s x f =>
    split at h
    · rename_i h1 h2; simp only [qv, h1, h2]; exact ⟨_, ⟨h.1, h.2.1, rfl⟩, h.2.2⟩
    · rename_i h1 h2; simp only [qv, h1, h2]; exact ⟨_, ⟨h.1, h.2.1, rfl⟩, h.2.2⟩
    · exact h.elim
  case h_10 t x i =>
    split at h
    · rename_i h1 h2 h3; simp only [qv, h1, h2, h3]; exact ⟨_, ⟨h.1, h.2.1, h.2.2.1, h.2.2.2.1, rfl⟩, h.2.2.2.2⟩
    · rename_i h1 h2 h3; simp only [qv, h1, h2, h3]
      obtain ⟨rows, g1, g2, g3, g4, g5, g6⟩ := h
      exact ⟨_, ⟨rows, g1, g2, g3, g4, g5, rfl⟩, g6⟩
    · exact h.elim
  case h_11 t x i =>
    split at h
    · rename_i h1 h2 h3; simp only [qv, h1, h2, h3]; exact ⟨_, ⟨h.1, h.2.1, rfl⟩, h.2.2⟩
    · exact h.elim
  case h_12 x i =>
    split at h
    · rename_i h1; simp only [qv, h1]; exact ⟨_, ⟨h.1, rfl⟩, h.2⟩
    · exact h.elim
  case h_13 t x lo hi =>
    split at h
    · rename_i h1 h2; simp only [qv, h1, h2]
      obtain ⟨g1, g2, g3⟩ := h
      have bx : ∀ {z : Option Operand} {dflt : Nat} {KK : Nat → Prop}, boundQ ρ z dflt KK → ∃ m, boundQ ρ z dflt (· = m) ∧ KK m := by
        intro z dflt KK hz
        unfold boundQ at *
        split at hz
        · exact ⟨_, rfl, hz⟩
        · (try simp only)
          split at hz
          · rename_i hh; (try simp only [hh]); exact ⟨_, ⟨hz.1, rfl⟩, hz.2⟩
          · exact hz.elim
      have bm : ∀ {z : Option Operand} {dflt m : Nat} {KK : Nat → Prop}, boundQ ρ z dflt (· = m) → KK m → boundQ ρ z dflt KK := by
        intro z dflt m KK hz hk
        unfold boundQ at *
        split at hz
        · (try simp only at hz ⊢); rw [hz]; exact hk
        · (try simp only at hz ⊢)
          split at hz
          · rename_i hh; (try simp only [hh]); exact ⟨hz.1, by rw [hz.2]; exact hk⟩
          · exact hz.elim
      obtain ⟨l, e1, e2⟩ := bx g3
      obtain ⟨hh, e3, e4⟩ := bx e2
      exact ⟨_, ⟨g1, g2, bm e1 (bm e3 ⟨e4.1, e4.2.1, rfl⟩)⟩, e4.2.2⟩
    · exact h.elim
  case h_14 t parts =>
    split at h
    · rename_i h1; simp only [qv, h1]
      obtain ⟨g1, g2, g3⟩ := h
      obtain ⟨cs, g4, g5⟩ := fillQ_ex _ _ _ g3
      refine ⟨.agg cs, ⟨g1, g2, ?_⟩, g5⟩
      exact fillQ_mono (fun x hx => by rw [hx]) _ _ g4
    · exact h.elim
  case h_15 args ts =>
    split at h
    · rename_i h1 h2; simp only [qv, h1, h2]
      split at h
      · rename_i h3 h4; (try simp only [h3, h4]); exact ⟨_, rfl, h⟩
      · rename_i h3; (try simp only [h3])
        obtain ⟨rows, g1, g2⟩ := h
        exact ⟨_, ⟨rows, g1, rfl⟩, g2⟩
      · exact h.elim
    · exact h.elim
  case h_16 args ts =>
    split at h
    · rename_i h1; simp only [qv, h1]
      split at h
      · rename_i h3 h4; (try simp only [h3, h4]); exact ⟨_, rfl, h⟩
      · exact h.elim
    · exact h.elim
  case h_17 args ts =>
    split at h
    · rename_i h1; simp only [qv, h1]
      split at h
      · rename_i h3 h4; (try simp only [h3, h4]); exact ⟨_, rfl, h⟩
      · exact h.elim
    · exact h.elim
  case h_18 => exact h.elim
where
  fillQ_mono {places : Nat → Option (Nat × Nat)} {K K' : List D → Prop} (hK : ∀ x, K x → K' x) : ∀ (ps : List (Nat × D)) (cells : List D), fillQ places cells ps K → fillQ places cells ps K' := by
    intro ps
    induction ps with
    | nil => intro cells h; exact hK _ h
    | cons p ps ih =>
      intro cells h
      obtain ⟨i, d⟩ := p
      simp only [fillQ] at h ⊢
      split
      · rename_i hh1 hh2; simp only [hh1, hh2] at h
        exact ⟨h.1, h.2.1, ih _ h.2.2⟩
      · rename_i hh
        split at h
        · rename_i h1 h2; exact absurd h2 (hh _ _ _ h1)
        · exact h
end Go.Proofs.Ytgdldeggoflabaa

/- Regions that draw their order, second part. -/
namespace Go.Proofs.Ytgdldeggoflabaa
open Go.RowKit

theorem hv_ex {P : Program} {M : Tab} {ρ : Operand → D} {K : D → Prop} {op : Op} (h : hv P M ρ K op) : ∃ d, hv P M ρ (· = d) op ∧ K d := by
  unfold hv at h
  split at h
  · rename_i c
    split at h
    · rename_i f hc
      obtain ⟨r, h1, h2⟩ := h
      exact ⟨r, by simp only [hv, hc]; exact ⟨r, h1, rfl⟩, h2⟩
    · rename_i hc
      obtain ⟨d, h1, h2⟩ := qv_ex h
      refine ⟨d, ?_, h2⟩
      unfold hv
      simp only
      exact h1
  · rename_i t len parts
    split at h
    · rename_i hd
      obtain ⟨h1, h2, h3, h4, h5⟩ := h
      obtain ⟨rs, h6, h7⟩ := partsQ_ex _ _ _ h5
      refine ⟨.sl rs, ?_, h7⟩
      simp only [hv, hd]
      exact ⟨h1, h2, h3, h4, partsQ_ex.partsQ_mono (fun x hx => by rw [hx]) _ _ h6⟩
    · exact h.elim
  · rename_i op' hc hb
    obtain ⟨d, h1, h2⟩ := qv_ex h
    refine ⟨d, ?_, h2⟩
    unfold hv
    split
    · rename_i c; exact absurd rfl (hc c)
    · rename_i t len parts; exact absurd rfl (hb t len parts)
    · exact h1

theorem map_congr {ρ ρ' : Operand → D} {xs : List Operand} (h : ∀ x ∈ xs, ρ x = ρ' x) : xs.map ρ = xs.map ρ' := List.map_congr_left h

theorem qv_congr {P : Program} {M : Tab} {ρ ρ' : Operand → D} {K : D → Prop} (op : Op) (h : ∀ x ∈ op.operands, ρ x = ρ' x) : qv P M ρ K op → qv P M ρ' K op := by
  intro hq
  have hb : ∀ {z : Option Operand} {dflt : Nat} {KK : Nat → Prop}, (∀ x ∈ z.toArray, ρ x = ρ' x) → boundQ ρ z dflt KK = boundQ ρ' z dflt KK := by
    intro z dflt KK hz
    unfold boundQ
    cases z with
    | none => rfl
    | some o => simp only; rw [hz o (by simp)]
  unfold qv at hq ⊢
  split at hq
  case h_1 x => rw [← h x (by simp [Op.operands])]; exact hq
  case h_2 x => rw [← h x (by simp [Op.operands])]; exact hq
  case h_3 c x y => rw [← h x (by simp [Op.operands]), ← h y (by simp [Op.operands]), ← h c (by simp [Op.operands])]; exact hq
  case h_4 t x => rw [← h x (by simp [Op.operands])]; exact hq
  case h_5 t x => rw [← h x (by simp [Op.operands])]; exact hq
  case h_6 op t x y t' => rw [← h x (by simp [Op.operands]), ← h y (by simp [Op.operands])]; exact hq
  case h_7 s d x => rw [← h x (by simp [Op.operands])]; exact hq
  case h_8 t x => rw [← h x (by simp [Op.operands])]; exact hq
  case h_9 s x f => rw [← h x (by simp [Op.operands])]; exact hq
  case h_10 t x i => rw [← h x (by simp [Op.operands]), ← h i (by simp [Op.operands])]; exact hq
  case h_11 t x i => rw [← h x (by simp [Op.operands]), ← h i (by simp [Op.operands])]; exact hq
  case h_12 x i => rw [← h x (by simp [Op.operands])]; exact hq
  case h_13 t x lo hi =>
    rw [← h x (by simp [Op.operands])]
    simp only [← hb (z := lo) (fun y hy => h y (by simp [Op.operands] at hy ⊢; simp [hy])), ← hb (z := hi) (fun y hy => h y (by simp [Op.operands] at hy ⊢; simp [hy]))]
    exact hq
  case h_14 t parts =>
    have : (parts.toList.map fun p => (p.1, ρ p.2)) = parts.toList.map fun p => (p.1, ρ' p.2) := by
      apply List.map_congr_left
      intro p hp
      rw [h p.2 (by simp only [Op.operands]; exact Array.mem_toList_iff.1 (by simpa using ⟨p.1, by simpa using hp⟩))]
    rw [← this]; exact hq
  case h_15 args ts =>
    revert hq
    split
    · rename_i x t h1 h2
      rw [← h x (by simp only [Op.operands, Call.operands]; simp [← Array.mem_toList_iff, h1])]
      exact fun hq => hq
    · exact fun hq => hq
  case h_16 args ts =>
    revert hq
    split
    · rename_i x y h1
      rw [← h x (by simp only [Op.operands, Call.operands]; simp [← Array.mem_toList_iff, h1]), ← h y (by simp only [Op.operands, Call.operands]; simp [← Array.mem_toList_iff, h1])]
      exact fun hq => hq
    · exact fun hq => hq
  case h_17 args ts =>
    revert hq
    split
    · rename_i x y h1
      rw [← h x (by simp only [Op.operands, Call.operands]; simp [← Array.mem_toList_iff, h1]), ← h y (by simp only [Op.operands, Call.operands]; simp [← Array.mem_toList_iff, h1])]
      exact fun hq => hq
    · exact fun hq => hq
  case h_18 => exact hq.elim

theorem hv_congr {P : Program} {M : Tab} {ρ ρ' : Operand → D} {K : D → Prop} (op : Op) (h : ∀ x ∈ op.operands, ρ x = ρ' x) (hq : hv P M ρ K op) : hv P M ρ' K op := by
  unfold hv at hq ⊢
  split at hq
  · rename_i c
    have hm : c.args.toList.map ρ = c.args.toList.map ρ' := List.map_congr_left fun x hx => h x (by
      simp only [Op.operands, Call.operands, Array.mem_append]
      exact .inr (Array.mem_toList_iff.1 hx))
    (try simp only)
    split at hq
    · rename_i f hc; (try simp only [hc]); rw [← hm]; exact hq
    · rename_i hc
      have := qv_congr (.call c) h hq
      first | exact this | (split; · (rename_i f hf; exact absurd hf (hc f)); · exact this)
  · rename_i t len parts
    have : (parts.toList.map fun p => (p.1, ρ p.2)) = parts.toList.map fun p => (p.1, ρ' p.2) := by
      apply List.map_congr_left
      intro p hp
      rw [h p.2 (by simp only [Op.operands]; exact Array.mem_toList_iff.1 (by simpa using ⟨p.1, by simpa using hp⟩))]
    (try simp only)
    rw [← this]; exact hq
  · rename_i op' hc hb
    exact qv_congr _ h hq

mutual
theorem ren_noFs (dst : Nat) : ∀ (d : D), noFs d = true → ren dst d = d
  | .int .., _ | .bool _, _ | .str _, _ | .nov, _ | .any, _ | .nl, _ | .sl _, _ | .ep .., _ | .ptr .., _ => by simp [ren]
  | .fs _, h => by simp [noFs] at h
  | .agg cs, h => by simp only [noFs] at h; simp only [ren, renL_noFs dst cs h]
  | .tup cs, h => by simp only [noFs] at h; simp only [ren, renL_noFs dst cs h]
theorem renL_noFs (dst : Nat) : ∀ (ds : List D), noFsL ds = true → renL dst ds = ds
  | [], _ => rfl
  | d :: ds, h => by
    simp only [noFsL, Bool.and_eq_true] at h
    simp only [renL, ren_noFs dst d h.1, renL_noFs dst ds h.2]
end

section
variable {B0 : Nat} {X : Xs} {I0 : Nat → Prop} {w0 : World} {n : Nat} {Im : Nat → Prop} {β : Nat → RowG} {σ : Nat → D} {M : Nat → Option Ent} {a : Act} {w : World} {P : Program}

theorem hv_sound (h : StG B0 X I0 w0 n Im β σ M a w) {o : Oper} {r : D} (hq : hv P M (ev σ) (· = r) o.op) (K' : Act → World → Prop) (Q : Exit → Act → World → Prop)
    (hk : ∀ v w' Im' β', StG B0 X I0 w0 n Im' β' σ M a w' → Rv w' Im' β' M r v → K' (a.put o.dst v) w') : o.wp P a w K' Q := by
  obtain ⟨dst, op, type, pos, after, guard⟩ := o
  simp only at hq
  have quiet : qv P M (ev σ) (· = r) op → (Oper.mk dst op type pos after guard).wp P a w K' Q := by
    intro hq
    obtain ⟨v, d, h1, h2, rfl⟩ := qv_sound (o := ⟨dst, op, type, pos, after, guard⟩) h hq
    unfold Oper.wp
    rw [h1]
    exact hk v w Im β h h2
  unfold hv at hq
  split at hq
  · rename_i c
    obtain ⟨callee, args, ts⟩ := c
    simp only at hq
    split at hq
    · rename_i f
      obtain ⟨r', ⟨h1, h2, h3, h4⟩, rfl⟩ := hq
      have hc := call_sound h (RvL_evs h args.toList) h1 h2 (h4.imp id (fun h5 => ⟨h5, by simp⟩)) 0
      have hcl := h1.1
      have hrun : (execOp a.eval ⟨dst, .call ⟨.value (.func f), args, ts⟩, type, pos, after, guard⟩).run P w = .ok (.enter f (args.map a.eval)) w := by
        unfold callable at hcl
        cases hf : P.funcs[f]? with
        | none => rw [hf] at hcl; cases hcl
        | some fn =>
          rw [hf] at hcl
          simp only [Bool.and_eq_true, bne_iff_ne, ne_eq] at hcl
          obtain ⟨hn, hb⟩ := hcl
          obtain ⟨b, hb⟩ := Option.isSome_iff_exists.1 hb
          simp [execOp, resolve, Act.eval, Deferred.ofValue, invoke, callFunc, hf, hn, hb]
      unfold Oper.wp
      rw [hrun]
      simp only [Oper.upon]
      have e1 : (args.toList.map a.eval).toArray = args.map a.eval := by
        apply Array.toList_inj.1; simp
      rw [e1] at hc
      refine hc.mono ?_
      rintro e w' ⟨v, Im', β', rfl, h5, h6⟩
      rw [ren_noFs 0 r' h3] at h6
      exact hk v w' Im' β' h5 h6
    · exact quiet hq
  · rename_i t len parts
    split at hq
    · rename_i e es eb ez htd
      obtain ⟨h1, h2, rfl, h4, h5⟩ := hq
      obtain ⟨hu, hes, heb, hez⟩ := tI_slice htd
      have hes0 := h1
      rw [hes] at hes0
      obtain ⟨i, hi, hisz⟩ := info_of_size hes0
      have hsi : es = i.size := by rw [hes, hisz]
      obtain ⟨z, hz⟩ : ∃ z, i.zero = some z := by
        cases hz : i.zero with
        | none => simp [zerosOf, hi, hz] at hez; subst hez; simp at h2; omega
        | some z => exact ⟨z, rfl⟩
      have main : ∀ (rest : List Value), rest.length = parts.toList.length * es →
          (∀ cs : List Value, Instr.fill (fun i => some (i * es, es)) rest.toArray (parts.toList.map fun p => (p.1, a.eval p.2)) = some cs.toArray → (Instr.buildSlice t parts.size (parts.map fun (i, x) => (i, a.eval x))).run P w = .ok (.slice (some ⟨w.heap.size, 0, none⟩) parts.size parts.size) (w.alloc (.cells cs.toArray e))) →
          (Oper.mk dst (.buildSlice t parts.size parts) type pos after guard).wp P a w K' Q := by
        intro rest hrest hrun
        obtain ⟨rows, cs, g1, g2, g3, g4, g5, g6⟩ := parts_sound h parts.toList 0 _ [] rest h5 (by simp) hrest
        simp only [List.nil_append] at g1
        have hps : rows.length = parts.size := by rw [g4]; simp
        subst g6
        have hbel : Below w.heap.size w (w.alloc (.cells cs.toArray e)) := (Below.refl _ _).alloc (Nat.le_refl _) _
        have hst := h.grow hbel (fun b => Im b ∨ b = w.heap.size) (fun _ hb => .inl hb) (fun b hb => hb.imp id (fun hb => by omega)) (fun b hb => by
          rcases hb with hb | hb
          · have := h.im b hb; simp; omega
          · subst hb; simp)
        have hcc : ∀ b o, Im b → (w.alloc (.cells cs.toArray e)).cell? ⟨b, o, none⟩ = w.cell? ⟨b, o, none⟩ := fun b o hb => World.cell?_of_block (w := w) (heap_alloc_below w _ b (h.im b hb))
        have hent : EntOk (w.alloc (.cells cs.toArray e)) Im β M ⟨w.heap.size, rows.length, es, false⟩ (.row rows) := by
          simp only [EntOk]
          exact .inr ⟨trivial, fun hi => Nat.lt_irrefl _ (h.im _ hi), Nat.le_refl _, ⟨by rw [hps]; have : parts.size * 1 ≤ parts.size * es := Nat.mul_le_mul_left _ (by omega); unfold maxLen; omega, fun hh => by simp [hh]⟩, cs.toArray, e, heap_alloc_new w _, by simpa using g3, by simpa using g5, by simpa using RcRowsL_mono hcc (fun _ h => h) _ _ _ g2⟩
        have hrc := Rc_of_rows (Im' := fun b => Im b ∨ b = w.heap.size) (fun _ hb => .inl hb) (fun _ => .inr rfl) hent
        have hv' : Rv (w.alloc (.cells cs.toArray e)) (fun b => Im b ∨ b = w.heap.size) β M (.sl rows) (.slice (some ⟨w.heap.size, 0, none⟩) parts.size parts.size) := by
          simp only [RowG.val] at hrc
          simp only [Rv]
          simpa [hps] using hrc
        unfold Oper.wp
        simp only [execOp, Sem.run_bind, hrun cs g1, Result.andThen_ok]
        exact hk _ _ _ _ hst hv'
      by_cases h0 : parts.size * i.size = 0
      · have hp0 : parts.size = 0 := by
          rcases Nat.mul_eq_zero.1 h0 with h0 | h0
          · exact h0
          · omega
        refine main [] (by simp [hp0]) ?_
        intro cs hcs
        have hparts : parts = #[] := Array.eq_empty_of_size_eq_zero hp0
        subst hparts
        simp [Instr.fill] at hcs
        subst hcs
        simp [Instr.buildSlice, run_underlying hu, Go.sizeOf, typeInfo, hi, Instr.fill, newRow, Array.range_zero']
      · refine main ((Array.range (parts.size * i.size)).map (z.cells[· % z.cells.size]!)).toList (by simp [hsi]) ?_
        intro cs hcs
        rw [Array.toArray_toList] at hcs
        refine run_buildSlice w t e parts.size _ cs.toArray i z hu hi hz ?_ h0 ?_
        · rw [← hsi]; omega
        · rw [← hsi]
          simpa [hsi] using hcs
    · exact hq.elim
  · exact quiet hq
end

/-! ### whatever order -/
def putA (σ : Slots) (dst : Option Tmp) (d : D) : Slots := match dst with | some t => upd σ t d | none => σ

/-- what an operation's guard says of it, as far as it is known -/
def wantA (ops : Array Oper) (σ : Slots) (o : Oper) : Option Bool :=
  match o.guard with
  | none => some true
  | some (j, want) =>
    match (ops[j]?).bind (·.dst) with
    | some d => match σ d with
      | .bool b => some (b == want)
      | .nov => some false
      | _ => none
    | none => some false
/-- in the state σ the operation leaves d -/
def YA (P : Program) (n : Nat) (M : Tab) (ops : Array Oper) (o : Oper) (d : D) (σ : Slots) : Prop :=
  (∀ t, o.dst = some t → t < n) ∧ ((wantA ops σ o = some true ∧ hv P M (ev σ) (· = d) o.op) ∨ (wantA ops σ o = some false ∧ d = .nov))
def hOp (P : Program) (n : Nat) (M : Tab) (ops : Array Oper) (i : Nat) (K : Slots → Prop) (σ : Slots) : Prop :=
  match ops[i]? with
  | none => K σ
  | some o => ∃ d, YA P n M ops o d σ ∧ K (putA σ o.dst d)
def hAny (P : Program) (n : Nat) (M : Tab) (md : Region.Mode) (ops : Array Oper) (Q : Slots → Prop) : Nat → Array Bool → Slots → Prop
  | 0, listed, σ => Region.ready md ops listed = [] ∧ Q σ
  | fuel + 1, listed, σ =>
    (Region.ready md ops listed = [] → Q σ) ∧
    ∀ i ∈ Region.ready md ops listed, hOp P n M ops i (hAny P n M md ops Q fuel (listed.setIfInBounds i true)) σ

section
variable {B0 : Nat} {X : Xs} {I0 : Nat → Prop} {w0 : World} {n : Nat} {M : Tab} {P : Program} {ops : Array Oper} {md : Region.Mode}

theorem hOp_mono {i : Nat} {σ : Slots} {K K' : Slots → Prop} (h : ∀ σ, K σ → K' σ) (hh : hOp P n M ops i K σ) : hOp P n M ops i K' σ := by
  unfold hOp at *
  split
  · rename_i ho; simp only [ho] at hh; exact h _ hh
  · rename_i o ho; simp only [ho] at hh; obtain ⟨d, h1, h2⟩ := hh; exact ⟨d, h1, h _ h2⟩

theorem wpOp_of_hOp {i : Nat} {σ : Slots} {a : Act} {w : World} {K : Slots → Prop} {K' : Act → World → Prop} {Q' : Exit → Act → World → Prop} (hs : St B0 X I0 w0 n σ M a w) (hk : ∀ σ a w, St B0 X I0 w0 n σ M a w → K σ → K' a w) (hh : hOp P n M ops i K σ) : wpOp P ops Q' i K' a w := by
  obtain ⟨Im, β, h⟩ := hs
  unfold hOp at hh
  unfold wpOp
  split
  · rename_i ho; simp only [ho] at hh; exact hk _ _ _ ⟨Im, β, h⟩ hh
  · rename_i o ho
    simp only [ho] at hh
    obtain ⟨d, ⟨hlt, hy⟩, hK⟩ := hh
    have hputs : ∀ {Im' β' v w'}, StG B0 X I0 w0 n Im' β' σ M a w' → Rv w' Im' β' M d v → St B0 X I0 w0 n (putA σ o.dst d) M (a.put o.dst v) w' := by
      intro Im' β' v w' h1 h2
      cases hd : o.dst with
      | none => exact ⟨Im', β', by simpa [putA, Act.put] using h1⟩
      | some t => exact ⟨Im', β', h1.put (hlt t hd) h2⟩
    have hwant : ∀ b, wantA ops σ o = some b → Region.wanted o (yielded ops a.tmps) = b := by
      intro b hb
      unfold wantA at hb
      unfold Region.wanted
      split at hb
      · rename_i hg; simp only [hg]; simpa using hb
      · rename_i j want hg
        simp only [hg]
        split at hb
        · rename_i dj hdj
          obtain ⟨y1, y2⟩ := yielded_of h hdj
          split at hb
          · rename_i bb hbb; rw [y1 bb hbb]; simp at hb; simpa using hb
          · rename_i hbb; rw [y2 hbb]; simp at hb; simpa using hb
          · cases hb
        · rename_i hdj; simp [yielded, hdj] at hb ⊢; simpa using hb
    rcases hy with ⟨hw, hq⟩ | ⟨hw, rfl⟩
    · rw [hwant true hw]
      simp only [if_true]
      exact .inl (hv_sound h hq K' Q' fun v w' Im' β' h1 h2 => hk _ _ _ (hputs h1 h2) hK)
    · rw [hwant false hw]
      simp only [Bool.false_eq_true, if_false]
      exact hk _ _ _ (hputs h (by simp [Rv, Rc])) hK

theorem wpAny_of_hAny {Q : Slots → Prop} {Q' : Exit → Act → World → Prop} (hQ : ∀ σ a w, St B0 X I0 w0 n σ M a w → Q σ → Q' .normal a w) : ∀ (fuel : Nat) (listed : Array Bool) (σ : Slots) (a : Act) (w : World), St B0 X I0 w0 n σ M a w →
    hAny P n M md ops Q fuel listed σ → wpAny P md ops Q' fuel listed a w
  | 0, _, _, _, _, hs, h => ⟨h.1, hQ _ _ _ hs h.2⟩
  | fuel + 1, _, _, _, _, hs, h => ⟨fun h0 => hQ _ _ _ hs (h.1 h0), fun i hi => wpOp_of_hOp hs (fun σ' a' w' hs' => wpAny_of_hAny hQ fuel _ σ' a' w' hs') (h.2 i hi)⟩

theorem putA_comm (σ : Slots) {x y : Option Tmp} (d e : D) (h : ∀ t, x = some t → y ≠ some t) : putA (putA σ x d) y e = putA (putA σ y e) x d := by
  cases x with
  | none => rfl
  | some s =>
    cases y with
    | none => rfl
    | some t =>
      have hne : s ≠ t := fun he => h s rfl (he ▸ rfl)
      funext j
      simp only [putA, upd]
      by_cases e1 : j = t <;> by_cases e2 : j = s <;> simp_all

theorem ev_putA {σ : Slots} {dst : Option Tmp} {d : D} {x : Operand} (h : ∀ t, dst = some t → x ≠ .tmp t) : ev (putA σ dst d) x = ev σ x := by
  cases dst with
  | none => rfl
  | some t =>
    cases x with
    | tmp s => simp only [putA, ev]; rw [upd_ne _ _ (fun e => h t rfl (by rw [e]))]
    | _ => rfl

theorem wantA_put {o : Oper} {σ : Slots} {dst : Option Tmp} {d : D} (h : ∀ t, dst = some t → t ∉ o.looksAt ops) : wantA ops (putA σ dst d) o = wantA ops σ o := by
  cases dst with
  | none => rfl
  | some t =>
    unfold wantA
    cases hg : o.guard with
    | none => rfl
    | some g =>
      obtain ⟨j, want⟩ := g
      simp only
      cases hd : (ops[j]?).bind (·.dst) with
      | none => rfl
      | some dj =>
        have hne : dj ≠ t := fun e => h t rfl (by simp [Oper.looksAt, hg, hd, e])
        simp only [putA, upd_ne _ _ hne]

theorem hv_put {o : Oper} {σ : Slots} {dst : Option Tmp} {d : D} {K : D → Prop} (h : ∀ t, dst = some t → t ∉ o.looksAt ops) : hv P M (ev (putA σ dst d)) K o.op ↔ hv P M (ev σ) K o.op := by
  have key : ∀ x ∈ o.op.operands, ev (putA σ dst d) x = ev σ x := fun x hx => ev_putA fun t ht he => h t ht (by
    simp only [Oper.looksAt, List.mem_append, List.mem_filterMap]
    exact .inl ⟨x, Array.mem_toList_iff.2 hx, by simp [he]⟩)
  exact ⟨hv_congr _ key, hv_congr _ fun x hx => (key x hx).symm⟩

theorem YA_put {o : Oper} {σ : Slots} {dst : Option Tmp} {d e : D} (h : ∀ t, dst = some t → t ∉ o.looksAt ops) : YA P n M ops o e (putA σ dst d) ↔ YA P n M ops o e σ := by
  unfold YA
  rw [wantA_put h, hv_put h]

theorem hOp_put {j : Nat} {oi oj : Oper} {d : D} (hj : ops[j]? = some oj) (hap : oi.apart ops oj = true) {K : Slots → Prop} {σ : Slots}
    (hy : YA P n M ops oi d σ) (h : hOp P n M ops j K (putA σ oi.dst d)) : hOp P n M ops j (fun σ' => YA P n M ops oi d σ' ∧ K (putA σ' oi.dst d)) σ := by
  obtain ⟨h1, h2, h3⟩ := Oper.apart_spec hap
  unfold hOp at *
  simp only [hj] at *
  obtain ⟨e, g1, g2⟩ := h
  exact ⟨e, (YA_put h1).1 g1, (YA_put h3).2 hy, by rw [← putA_comm σ d e h2]; exact g2⟩

theorem hAny_first {Q : Slots → Prop} {i : Nat} {oi : Oper} {d : D} (hi : ops[i]? = some oi) :
    ∀ (fuel : Nat) (listed : Array Bool) (σ : Slots),
      (∀ j oj, ops[j]? = some oj → j ≠ i → listed.getD j true = false → (∀ e ∈ oj.after, Region.binds md e = true → e.on ≠ i) → oi.apart ops oj = true) →
      i ∈ Region.ready md ops listed → YA P n M ops oi d σ →
      hAny P n M md ops Q fuel (listed.setIfInBounds i true) (putA σ oi.dst d) → hAny P n M md ops Q (fuel + 1) listed σ := by
  have now : ∀ {σ : Slots} {K : Slots → Prop}, YA P n M ops oi d σ → K (putA σ oi.dst d) → hOp P n M ops i K σ := by
    intro σ K hy hk
    unfold hOp
    simp only [hi]
    exact ⟨d, hy, hk⟩
  intro fuel
  induction fuel with
  | zero =>
    intro listed σ _ hr hy H
    refine ⟨fun h => (by rw [h] at hr; cases hr), fun j hj => ?_⟩
    by_cases hji : j = i
    · subst hji; exact now hy H
    · have := ready_mono hj hji
      rw [H.1] at this
      cases this
  | succ fuel ih =>
    intro listed σ hfree hr hy H
    refine ⟨fun h => (by rw [h] at hr; cases hr), fun j hj => ?_⟩
    by_cases hji : j = i
    · subst hji; exact now hy H
    · have h1 := H.2 j (ready_mono hj hji)
      obtain ⟨hjun, oj, hoj, hall⟩ := mem_ready.1 hj
      have hnot : ∀ e ∈ oj.after, Region.binds md e = true → e.on ≠ i := fun e he hb heq => by
        have h1 := hall e he hb
        have h0 := (mem_ready.1 hr).1
        rw [heq] at h1
        rcases Nat.lt_or_ge i listed.size with h' | h'
        · simp [h'] at h0 h1; rw [h0] at h1; cases h1
        · simp [Array.getElem?_eq_none h'] at h1
      have h2 := hOp_put hoj (hfree j oj hoj hji hjun hnot) hy h1
      have hfree' : ∀ k ok, ops[k]? = some ok → k ≠ i → (listed.setIfInBounds j true).getD k true = false →
          (∀ e ∈ ok.after, Region.binds md e = true → e.on ≠ i) → oi.apart ops ok = true := fun k ok hk hki hun hno => by
        refine hfree k ok hk hki ?_ hno
        by_cases hjk : j = k
        · subst hjk; exact hjun
        · rw [getD_set_ne true hjk] at hun; exact hun
      refine hOp_mono (fun σ' h3 => ih (listed.setIfInBounds j true) σ' hfree' (ready_mono hr (Ne.symm hji)) h3.1 ?_) h2
      rw [Array.setIfInBounds_comm _ _ hji]
      exact h3.2

/-- the walk in the text's order -/
def hOps (P : Program) (n : Nat) (M : Tab) (ops : Array Oper) : List Oper → Slots → (Slots → Prop) → Prop
  | [], σ, K => K σ
  | o :: rest, σ, K => guardQ ops σ o.guard ((∀ t, o.dst = some t → t < n) ∧ hv P M (ev σ) (fun d => hOps P n M ops rest (putA σ o.dst d) K) o.op) (skipQ n o.dst σ fun σ' => hOps P n M ops rest σ' K)

theorem YA_of_hOps {o : Oper} {rest : List Oper} {σ : Slots} {K : Slots → Prop} (h : hOps P n M ops (o :: rest) σ K) : ∃ d, YA P n M ops o d σ ∧ hOps P n M ops rest (putA σ o.dst d) K := by
  have hskip : ∀ {K' : Slots → Prop}, skipQ n o.dst σ K' → (∀ t, o.dst = some t → t < n) ∧ K' (putA σ o.dst .nov) := by
    intro K' hs
    unfold skipQ at hs
    cases hd : o.dst with
    | none => rw [hd] at hs; exact ⟨by simp, hs⟩
    | some t => rw [hd] at hs; exact ⟨by simpa using hs.1, hs.2⟩
  simp only [hOps, guardQ] at h
  unfold YA wantA
  cases hg : o.guard with
  | none =>
    simp only [hg] at h
    obtain ⟨h1, h2⟩ := h
    obtain ⟨d, h3, h4⟩ := hv_ex h2
    exact ⟨d, ⟨h1, .inl ⟨rfl, h3⟩⟩, h4⟩
  | some g =>
    obtain ⟨j, want⟩ := g
    simp only [hg] at h
    cases hd : (ops[j]?).bind (·.dst) with
    | none =>
      simp only [hd] at h
      obtain ⟨h1, h2⟩ := hskip h
      exact ⟨.nov, ⟨h1, .inr (by simp [hd])⟩, h2⟩
    | some dj =>
      simp only [hd, grdQ] at h
      have yes : ((∀ t, o.dst = some t → t < n) ∧ hv P M (ev σ) (fun d => hOps P n M ops rest (putA σ o.dst d) K) o.op) → ∀ b, σ dj = .bool b → b = want → ∃ d, ((∀ t, o.dst = some t → t < n) ∧ (((match σ dj with | .bool b => some (b == want) | .nov => some false | _ => none) = some true ∧ hv P M (ev σ) (· = d) o.op) ∨ ((match σ dj with | .bool b => some (b == want) | .nov => some false | _ => none) = some false ∧ d = .nov))) ∧ hOps P n M ops rest (putA σ o.dst d) K := by
        rintro ⟨h1, h2⟩ b hb rfl
        obtain ⟨d, h3, h4⟩ := hv_ex h2
        exact ⟨d, ⟨h1, .inl ⟨by simp [hb], h3⟩⟩, h4⟩
      cases hs : σ dj with
      | bool b =>
        simp only [hs] at h
        cases b <;> cases want <;> simp only at h
        · obtain ⟨d, h1, h2⟩ := yes (h.1 (by simp)) false hs rfl
          exact ⟨d, by simpa [hd, hs] using h1, h2⟩
        · obtain ⟨h1, h2⟩ := hskip (h.2 (by simp))
          exact ⟨.nov, ⟨h1, .inr (by simp [hd, hs])⟩, h2⟩
        · obtain ⟨h1, h2⟩ := hskip (h.2 (by simp))
          exact ⟨.nov, ⟨h1, .inr (by simp [hd, hs])⟩, h2⟩
        · obtain ⟨d, h1, h2⟩ := yes (h.1 (by simp)) true hs rfl
          exact ⟨d, by simpa [hd, hs] using h1, h2⟩
      | nov =>
        simp only [hs] at h
        obtain ⟨h1, h2⟩ := hskip h
        exact ⟨.nov, ⟨h1, .inr (by simp [hd, hs])⟩, h2⟩
      | _ => simp only [hs] at h

theorem hAny_lex {Q : Slots → Prop} : ∀ (l : List Oper) (k : Nat) (listed : Array Bool) (σ : Slots), (∀ j, l[j]? = ops[k + j]?) →
    Region.lexFrom md ops l.length k listed = true → hOps P n M ops l σ Q → hAny P n M md ops Q l.length listed σ
  | [], _, _, _, _, hB, h => ⟨by simpa [Region.lexFrom] using hB, h⟩
  | o :: l, k, listed, σ, hl, hB, h => by
    have h0 : ops[k]? = some o := by simpa using (hl 0).symm
    simp only [List.length_cons, Region.lexFrom, Bool.and_eq_true] at hB
    obtain ⟨⟨hr, hf⟩, hB'⟩ := hB
    obtain ⟨d, hy, hK⟩ := YA_of_hOps h
    exact hAny_first h0 l.length listed σ (Region.free_spec h0 hf) (by simpa using hr) hy
      (hAny_lex l (k + 1) _ _ (fun j => by have := hl (j + 1); simpa [Nat.add_assoc, Nat.add_comm 1 j] using this) hB' hK)

/-- A REGION THAT DRAWS ITS ORDER. -/
theorem t_draw {id : Nat} {l : List Oper} {Q : Ex → Slots → Tab → Prop} {σ : Slots} (hm : P.follows .mixedOrders = true) (hB : Region.lexB .any l.toArray = true)
    (h : ∀ K : Slots → Prop, (∀ σ, Q .normal σ M → K σ) → hOps P n M l.toArray l σ K) : Tr P n (.region id l.toArray true) Q σ M := by
  intro B0 X I0 w0 a w hs
  simp only [Region.lexB, Bool.and_eq_true] at hB
  obtain ⟨Im, β, hg⟩ := hs
  refine wp_region_any hm (wpAny_of_hAny (Q := fun σ => Q .normal σ M) (fun σ' a' w' h1 h2 => ⟨.normal, σ', M, h1, h2, rfl⟩) _ _ σ a _ ⟨Im, β, hg.drew⟩ ?_)
  have := hAny_lex (P := P) (n := n) (M := M) (md := .any) l 0 (Array.replicate l.toArray.size false) σ (by simp) (by simpa using hB.2) (h _ (fun _ h => h))
  simpa using this
end
end Go.Proofs.Ytgdldeggoflabaa

/- What a reading of an argument tells the evaluator: the argument stands for a closed abstract value of its type's shape. -/
namespace Go.Proofs.Ytgdldeggoflabaa
open Go.RowKit Go.ChangeShapes Go.WideShapes

/-- the kinds of one cell -/
inductive CT where
  | int (k : IntKind)
  | bool
  | str
  | slice (es : List CT)

mutual
def IsC : CT → D → Prop
  | .int k, d => ∃ n, d = .int k n ∧ (Lit.int k n).wf = true
  | .bool, d => ∃ b, d = .bool b
  | .str, d => ∃ s : List UInt8, d = .str s ∧ s.length ≤ maxLen
  | .slice es, d => ∃ rows : List (List D), d = .sl rows ∧ rows.length ≤ maxLen ∧ ∀ r ∈ rows, IsL es r
def IsL : List CT → List D → Prop
  | [], ds => ds = []
  | c :: cs, ds => ∃ d r, ds = d :: r ∧ IsC c d ∧ IsL cs r
end

def ctFields (P : Program) (r : TypeId → Option (List CT)) : Nat → List Field → Option (List CT)
  | _, [] => some []
  | off, f :: fs =>
    if f.offset = off then
      match r f.type with
      | some c => if c.length = P.cellsOf f.type then (ctFields P r (off + c.length) fs).map (c ++ ·) else none
      | none => none
    else none
def ctOf (P : Program) : Nat → TypeId → Option (List CT)
  | 0, _ => none
  | n + 1, t =>
    match P.underlying t with
    | some (.int k) => some [.int k]
    | some .bool => some [.bool]
    | some .string => some [.str]
    | some (.slice e) =>
      match ctOf P n e with
      | some es => if es.length = P.cellsOf e ∧ es.length ≠ 0 then some [.slice es] else none
      | none => none
    | some (.struct fs) =>
      match ctFields P (ctOf P n) 0 fs.toList with
      | some c => if c.length = P.cellsOf t then some c else none
      | none => none
    | _ => none

theorem IsL_len : ∀ {cs : List CT} {ds : List D}, IsL cs ds → ds.length = cs.length
  | [], _, h => by simp only [IsL] at h; simp [h]
  | c :: cs, _, h => by
    simp only [IsL] at h
    obtain ⟨d, r, rfl, _, h⟩ := h
    simp [IsL_len h]
theorem IsL_append : ∀ {a b : List CT} {x y : List D}, IsL a x → IsL b y → IsL (a ++ b) (x ++ y)
  | [], b, x, y, h, h' => by simp only [IsL] at h; subst h; simpa using h'
  | c :: a, b, x, y, h, h' => by
    simp only [IsL] at h
    obtain ⟨d, r, rfl, h1, h2⟩ := h
    simp only [List.cons_append, IsL]
    exact ⟨d, r ++ y, rfl, h1, IsL_append h2 h'⟩
section
variable {H : Type} {enc : TypeId × Value → H} {P : Program} {w : World} {base : Nat} {sp : Nat → Bool} {held : Bool} {Im : Nat → Prop}
/-- one row that was read cell by cell -/
theorem RcRow_of : ∀ {ds : List D} {cs : List Value} {b o : Nat}, RcL w Im ds cs → (∀ c ∈ cs, c.oneCell' = true) → (∀ j, j < cs.length → w.cell? ⟨b, o + j, none⟩ = cs[j]?) → RcRow w Im ds b o
  | [], _, _, _, _, _, _ => by simp [RcRow]
  | d :: ds, cs, b, o, h, h1, hc => by
    simp only [RcL] at h
    obtain ⟨c, r, rfl, hd, hr⟩ := h
    simp only [RcRow]
    refine ⟨⟨c, by simpa using hc 0 (by simp), h1 c (by simp), hd⟩, RcRow_of hr (fun c hc => h1 c (by simp [hc])) ?_⟩
    intro j hj
    have := hc (j + 1) (by simpa using hj)
    simpa [Nat.add_assoc, Nat.add_comm 1 j] using this
theorem RcRows_of {s : Nat} {b : Nat} : ∀ {rows : List (List D)} {o : Nat}, (∀ i r, rows[i]? = some r → r.length = s ∧ RcRow w Im r b (o + i * s)) → RcRows w Im rows s b o
  | [], _, _ => by simp [RcRows]
  | r :: rs, o, h => by
    simp only [RcRows]
    have h0 := h 0 r rfl
    refine ⟨h0.1, by simpa using h0.2, RcRows_of fun i r' hr => ?_⟩
    have := h (i + 1) r' (by simpa using hr)
    rw [Nat.add_mul, Nat.one_mul, Nat.add_comm (i * s), ← Nat.add_assoc] at this
    exact this

def Good (w : World) (cts : List CT) (cs : List Value) : Prop := cs.length = cts.length ∧ (∀ c ∈ cs, c.oneCell' = true) ∧ ∃ ds, IsL cts ds ∧ RcL w (fun b => b < w.heap.size) ds cs

theorem good_append {a b : List CT} {x y : List Value} (h : Good w a x) (h' : Good w b y) : Good w (a ++ b) (x ++ y) := by
  obtain ⟨h1, h2, d, h3, h4⟩ := h
  obtain ⟨g1, g2, e, g3, g4⟩ := h'
  refine ⟨by simp [h1, g1], ?_, d ++ e, IsL_append h3 g3, RcL_append _ _ _ _ h4 g4⟩
  intro c hc
  rcases List.mem_append.1 hc with hc | hc
  · exact h2 c hc
  · exact g2 c hc
theorem good_one {c : CT} {v : Value} {d : D} (h1 : v.oneCell' = true) (h : IsC c d) (h' : Rc w (fun b => b < w.heap.size) d v) : Good w [c] [v] := by
  refine ⟨rfl, by simpa using h1, [d], ?_, ?_⟩
  · simp only [IsL]; exact ⟨d, [], rfl, h, rfl⟩
  · simp only [RcL]; exact ⟨v, [], rfl, h', rfl⟩

theorem fields_open {r : TypeId → Option (List CT)} {cs : List Value} {n : Nat} (hr : ∀ t c, r t = some c → ∀ x cs, DataW.trod enc P w base sp held n t cs = some x → Good w c cs) : ∀ (fs : List Field) (off : Nat) (cts : List CT),
    ctFields P r off fs = some cts → cs.length = off + cts.length → (∀ f ∈ fs, ∃ x, DataW.trod enc P w base sp held n f.type ((cs.drop f.offset).take (P.cellsOf f.type)) = some x) → Good w cts (cs.drop off)
  | [], off, cts, h, hl, _ => by
    simp only [ctFields, Option.some.injEq] at h
    subst h
    have : cs.drop off = [] := List.drop_eq_nil_of_le (by simp at hl; omega)
    rw [this]
    exact ⟨rfl, by simp, [], by simp [IsL], by simp [RcL]⟩
  | f :: fs, off, cts, h, hl, hf => by
    simp only [ctFields] at h
    split at h
    · rename_i ho
      split at h
      · rename_i c hc
        split at h
        · rename_i hcl
          simp only [Option.map_eq_some_iff] at h
          obtain ⟨c', h', rfl⟩ := h
          obtain ⟨x, hx⟩ := hf f (by simp)
          have g1 := hr _ _ hc _ _ hx
          have g2 := fields_open hr fs _ _ h' (by simp at hl; omega) (fun f hf' => hf f (by simp [hf']))
          rw [ho, ← hcl] at g1
          have : cs.drop off = (cs.drop off).take c.length ++ cs.drop (off + c.length) := by
            rw [← List.drop_drop, List.take_append_drop]
          rw [this]
          exact good_append g1 g2
        · cases h
      · cases h
    · cases h

theorem cells_get {a : Addr} {k : Nat} {cs : List Value} (h : w.cells? base a k = some cs) : cs.length = k ∧ ∀ j, j < k → w.cell? (a.add j) = cs[j]? := by
  unfold World.cells? at h
  split at h
  · exact ⟨by simpa using mapM_some_length h, fun j hj => mapM_some_get h j j (by simp [hj])⟩
  · cases h

theorem ct_open : ∀ (fuel : Nat) (t : TypeId) (cts : List CT), ctOf P fuel t = some cts → ∀ (m : Nat) (cs : List Value) (x : DataW H × List MemPlace), DataW.trod enc P w base sp held m t cs = some x → Good w cts cs
  | 0, _, _, h, _, _, _, _ => by simp [ctOf] at h
  | n + 1, t, cts, h, m, cs, x, hx => by
    simp only [ctOf] at h
    split at h
    · rename_i k hu
      cases h
      obtain ⟨z, rfl, _, hw⟩ := DataW.trod_int hu hx
      exact good_one rfl (d := .int k z) (by simp only [IsC]; exact ⟨z, rfl, hw⟩) (by simp [Rc])
    · rename_i hu
      cases h
      obtain ⟨z, rfl, _⟩ := DataW.trod_bool hu hx
      exact good_one rfl (d := .bool z) (by simp only [IsC]; exact ⟨z, rfl⟩) (by simp [Rc])
    · rename_i hu
      cases h
      obtain ⟨s, rfl, _, hs⟩ := DataW.trod_string hu hx
      exact good_one rfl (d := .str s.data.toList) (by simp only [IsC]; exact ⟨_, rfl, by simpa using hs⟩) (by simp [Rc])
    · rename_i e hu
      split at h
      · rename_i es he
        split at h
        · rename_i hes
          cases h
          rcases DataW.trod_slice hu hx with ⟨rfl, _⟩ | ⟨a, len, cap, elems, rest, k, rfl, rfl, _, hb, hlc, hcm, hel, hget, _, _⟩
          · exact good_one rfl (d := .sl []) (by simp only [IsC]; exact ⟨[], rfl, by simp, by simp⟩) (by simp only [Rc]; exact ⟨none, 0, rfl, by simp, by simp⟩)
          · have hrow : ∀ i, i < len → ∃ cs', w.cells? base (a.add (i * P.cellsOf e)) (P.cellsOf e) = some cs' ∧ Good w es cs' := by
              intro i hi
              have := hget i hi
              rw [List.getElem?_eq_getElem (by omega)] at this
              simp only [Option.bind_eq_some_iff] at this
              obtain ⟨cs', h1, h2⟩ := this
              exact ⟨cs', h1, ct_open n e es he k cs' _ h2⟩
            have hds : ∀ i, ∃ ds : List D, i < len → ∃ cs', w.cells? base (a.add (i * P.cellsOf e)) (P.cellsOf e) = some cs' ∧ (∀ c ∈ cs', c.oneCell' = true) ∧ IsL es ds ∧ RcL w (fun b => b < w.heap.size) ds cs' := by
              intro i
              by_cases hi : i < len
              · obtain ⟨cs', h1, h2, h3, ds, h4, h5⟩ := hrow i hi
                exact ⟨ds, fun _ => ⟨cs', h1, h3, h4, h5⟩⟩
              · exact ⟨[], fun hh => absurd hh hi⟩
            have hfun : ∃ f : Nat → List D, ∀ i, i < len → ∃ cs', w.cells? base (a.add (i * P.cellsOf e)) (P.cellsOf e) = some cs' ∧ (∀ c ∈ cs', c.oneCell' = true) ∧ IsL es (f i) ∧ RcL w (fun b => b < w.heap.size) (f i) cs' :=
              ⟨fun i => Classical.choose (hds i), fun i => Classical.choose_spec (hds i)⟩
            obtain ⟨f, hf⟩ := hfun
            have hlen : ((List.range len).map f).length = len := by simp
            refine good_one rfl (d := .sl ((List.range len).map f)) ?_ ?_
            · simp only [IsC]
              refine ⟨_, rfl, by rw [hlen]; omega, ?_⟩
              intro r hr
              obtain ⟨i, hi, rfl⟩ := List.mem_map.1 hr
              obtain ⟨_, _, _, h3, _⟩ := hf i (by simpa using hi)
              exact h3
            · simp only [Rc, hlen]
              refine ⟨some a, cap, rfl, hlc, ?_⟩
              by_cases h0 : len = 0
              · exact .inl (by simp [h0])
              · right
                obtain ⟨b, o, spt⟩ := a
                obtain ⟨cs0, z1, _⟩ := hf 0 (by omega)
                obtain ⟨z2, z3⟩ := cells_get z1
                have z4 := z3 0 (by omega)
                rw [List.getElem?_eq_getElem (by omega)] at z4
                simp only [Nat.zero_mul, Addr.add, if_true] at z4
                have hspot : spt = none := by simpa using World.cell?_spot z4
                subst hspot
                have hblk : b < w.heap.size := World.block_lt_of_cell? w _ z4
                have cell0 : ∀ i, i < len → ∀ cs', w.cells? base ((⟨b, o, none⟩ : Addr).add (i * P.cellsOf e)) (P.cellsOf e) = some cs' → cs'.length = es.length ∧ ∀ j, j < es.length → w.cell? (⟨b, o + i * es.length + j, none⟩ : Addr) = cs'[j]? := by
                  intro i hi cs' hcs
                  obtain ⟨g1, g2⟩ := cells_get hcs
                  rw [hes.1]
                  exact ⟨g1, fun j hj => by
                    have := g2 j hj
                    have e1 : ((⟨b, o, none⟩ : Addr).add (i * P.cellsOf e)).add j = ⟨b, o + i * P.cellsOf e + j, none⟩ := by
                      simp only [Addr.add]; split <;> split <;> simp_all
                    rw [← e1]; exact this⟩
                refine ⟨b, o, es.length, rfl, hblk, RcRows_of ?_⟩
                intro i r hr
                simp only [List.getElem?_map, Option.map_eq_some_iff] at hr
                obtain ⟨i', hi', rfl⟩ := hr
                have hii : i' = i ∧ i < len := by
                  rcases Nat.lt_or_ge i len with hl | hl
                  · rw [List.getElem?_range hl] at hi'; exact ⟨(Option.some.inj hi').symm, hl⟩
                  · rw [List.getElem?_eq_none (by simpa using hl)] at hi'; cases hi'
                obtain ⟨rfl, hl⟩ := hii
                obtain ⟨cs', y1, y2, y3, y4⟩ := hf i' hl
                obtain ⟨y5, y6⟩ := cell0 i' hl cs' y1
                exact ⟨IsL_len y3, RcRow_of y4 y2 (by rw [y5]; exact y6)⟩
        · cases h
      · cases h
    · rename_i fs hu
      split at h
      · rename_i c hc
        split at h
        · rename_i hcl
          cases h
          obtain ⟨xs, k, rfl, _, hl, hxl, hget⟩ := DataW.trod_struct hu hx
          have := fields_open (cs := cs) (fun t c hc x cs hh => ct_open n t c hc k cs x hh) fs.toList 0 cts hc (by omega) (by
            intro f hf
            obtain ⟨i, hi, hfi⟩ := List.getElem_of_mem hf
            have h1 : fs[i]? = some f := by rw [← Array.getElem?_toList, List.getElem?_eq_getElem hi, hfi]
            have h2 := hget i f h1
            have : i < xs.length := by rw [hxl]; simpa using hi
            rw [List.getElem?_eq_getElem this] at h2
            exact ⟨_, h2⟩)
          simpa using this
        · cases h
      · cases h
    · cases h

/-- an argument that is a struct -/
theorem arg_struct {t : TypeId} {fs : Array Field} {r : Reach} {b0 : Nat} {v : Value} {d : DataW H} {ps : List MemPlace} {cts : List CT} (n : Nat) (hu : P.underlying t = some (.struct fs)) (hct : ctOf P n t = some cts)
    (hval : Value.okWide P w r b0 t v) (h : DataW.Trod enc P w base sp held t v d ps) : ∃ ds, IsL cts ds ∧ Rc w (fun b => b < w.heap.size) (.agg ds) v := by
  simp only [Value.okWide, hu] at hval
  obtain ⟨cs, rfl, _, _⟩ := hval
  obtain ⟨m, hm⟩ := h
  obtain ⟨_, _, ds, h1, h2⟩ := ct_open n t cts hct m _ _ hm
  refine ⟨ds, h1, ?_⟩
  simp only [Rc]
  exact ⟨cs.toList, by simp, by simpa [Value.cells] using h2⟩
/-- one that is a single cell -/
theorem arg_cell {t : TypeId} {v : Value} {d : DataW H} {ps : List MemPlace} {c : CT} (n : Nat) (hct : ctOf P n t = some [c]) (hv : v.cells = #[v]) (h : DataW.Trod enc P w base sp held t v d ps) : ∃ d, IsC c d ∧ Rc w (fun b => b < w.heap.size) d v := by
  obtain ⟨m, hm⟩ := h
  rw [hv] at hm
  obtain ⟨_, _, ds, h1, h2⟩ := ct_open n t _ hct m _ _ hm
  simp only [IsL] at h1
  obtain ⟨d, r, rfl, h3, rfl⟩ := h1
  simp only [RcL] at h2
  obtain ⟨_, _, he, h4, rfl⟩ := h2
  simp only [List.cons.injEq, and_true] at he
  subst he
  exact ⟨d, h3, h4⟩
end
end Go.Proofs.Ytgdldeggoflabaa

/- The steps of a drawn region as they are taken in a proof. -/
namespace Go.Proofs.Ytgdldeggoflabaa
open Go.RowKit

section
variable {P : Program} {n : Nat} {σ : Slots} {M : Tab} {ops : Array Oper} {K : Slots → Prop}
theorem h_nil (h : K σ) : hOps P n M ops [] σ K := h
theorem h_plain {dst : Nat} {op : Op} {type : TypeId} {pos : String} {after : Array Edge} {rest : List Oper} (hd : dst < n)
    (h : ∀ K' : D → Prop, (∀ d, hOps P n M ops rest (upd σ dst d) K → K' d) → hv P M (ev σ) K' op) : hOps P n M ops (⟨some dst, op, type, pos, after, none⟩ :: rest) σ K := by
  simp only [hOps, guardQ]
  exact ⟨by intro t ht; cases ht; exact hd, h _ (fun _ h => h)⟩
theorem h_none {op : Op} {type : TypeId} {pos : String} {after : Array Edge} {rest : List Oper}
    (h : ∀ K' : D → Prop, (∀ d, hOps P n M ops rest σ K → K' d) → hv P M (ev σ) K' op) : hOps P n M ops (⟨none, op, type, pos, after, none⟩ :: rest) σ K := by
  simp only [hOps, guardQ]
  exact ⟨by simp, h _ (fun _ h => h)⟩
theorem h_guard {dst : Option Tmp} {op : Op} {type : TypeId} {pos : String} {after : Array Edge} {j : Nat} {want : Bool} {rest : List Oper} (d : Nat) (hd : (ops[j]?).bind (·.dst) = some d)
    (h : ∀ A B : Prop, (hOps P n M ops (⟨dst, op, type, pos, after, none⟩ :: rest) σ K → A) → (skipQ n dst σ (fun σ' => hOps P n M ops rest σ' K) → B) → grdQ (σ d) want A B) :
    hOps P n M ops (⟨dst, op, type, pos, after, some (j, want)⟩ :: rest) σ K := by
  have := h _ _ id id
  simp only [hOps, guardQ, hd]
  simpa only [hOps, guardQ] using this
end

end Go.Proofs.Ytgdldeggoflabaa

/- Regions that draw their order and end in operations with an effect: the head in whatever order, the tail in the text's. -/
namespace Go.Proofs.Ytgdldeggoflabaa
open Go.RowKit

/-- every operation of the tail waits for the one ahead of it; q (if there is one) was pulled to the front -/
def chainQ (md : Region.Mode) (ops : Array Oper) (n q : Nat) : Bool :=
  (List.range ops.size).all fun t => decide (t ≤ n) || decide (t = q) || Region.waitsFor md ops t (if t - 1 = q then t - 2 else t - 1)

structure HeadQ (md : Region.Mode) (ops : Array Oper) (n q : Nat) (listed : Array Bool) : Prop where
  size : listed.size = ops.size
  closed : ∀ j oj, ops[j]? = some oj → listed.getD j false = true → ∀ e ∈ oj.after, Region.binds md e = true → listed.getD e.on false = true
  tail : ∀ t, n ≤ t → t < ops.size → t ≠ q → listed.getD t true = false
  pulled : q < ops.size → listed.getD q false = true

section
variable {ops : Array Oper} {md : Region.Mode}

theorem HeadQ.set {n q i : Nat} {listed : Array Bool} (inv : HeadQ md ops n q listed) (hi : i ∈ Region.ready md ops listed) (hin : i < n) : HeadQ md ops n q (listed.setIfInBounds i true) := by
  obtain ⟨_, oi, hoi, hall⟩ := mem_ready.1 hi
  refine ⟨by simp [inv.size], fun j oj hj hl e he hb => ?_, fun t ht ht' hq => by rw [getD_set_ne true (by omega)]; exact inv.tail t ht ht' hq, fun hq => getD_set_true (inv.pulled hq)⟩
  by_cases hij : i = j
  · subst hij
    have : oj = oi := Option.some.inj (hj.symm.trans hoi)
    subst this
    exact getD_set_true (hall e he hb)
  · rw [getD_set_ne false hij] at hl
    exact getD_set_true (inv.closed j oj hj hl e he hb)

theorem tail_waitsQ {n q : Nat} {listed : Array Bool} (hs : Region.sinkB md ops n = true) (hc : chainQ md ops n q = true) (hq : q ≠ n) (hn : n < ops.size) (inv : HeadQ md ops n q listed) :
    ∀ (d i : Nat), n - i = d → i < n → listed.getD i true = false → ∀ t, n ≤ t → t ∉ Region.ready md ops listed := by
  intro d
  induction d using Nat.strongRecOn with
  | _ d ih =>
    intro i hd hi hun t ht hr
    obtain ⟨htun, ot, hot, hall⟩ := mem_ready.1 hr
    have htlt : t < ops.size := (Array.getElem?_eq_some_iff.1 hot).1
    by_cases htn : t = n
    · subst htn
      have h1 := List.all_eq_true.1 hs i (List.mem_range.2 hi)
      obtain ⟨j, hj, hj2⟩ := List.any_eq_true.1 h1
      simp only [Bool.and_eq_true, decide_eq_true_eq] at hj2
      obtain ⟨oj, hoj, e, he, hb, hon⟩ := Region.waitsFor_spec hj2.2
      have hjle : j ≤ t := by have := List.mem_range.1 hj; omega
      by_cases hjt : j = t
      · subst hjt
        have : oj = ot := Option.some.inj (hoj.symm.trans hot)
        subst this
        have h2 := hall e he hb
        rw [hon, getD_both hun] at h2
        cases h2
      · cases hl : listed.getD j false with
        | true =>
          have h2 := inv.closed j oj hoj hl e he hb
          rw [hon, getD_both hun] at h2
          cases h2
        | false =>
          have hjs : j < listed.size := by rw [inv.size]; omega
          exact ih (t - j) (by omega) j rfl (by omega) (getD_in hjs hl) t (Nat.le_refl _) hr
    · by_cases htq : t = q
      · subst htq
        have := inv.pulled htlt
        rw [getD_both htun] at this
        cases this
      · have h1 := List.all_eq_true.1 hc t (List.mem_range.2 htlt)
        simp only [Bool.or_eq_true, decide_eq_true_eq] at h1
        rcases h1 with (h1 | h1) | h1
        · omega
        · exact htq h1
        · obtain ⟨o', ho', e, he, hb, hon⟩ := Region.waitsFor_spec h1
          have : o' = ot := Option.some.inj (ho'.symm.trans hot)
          subst this
          have h2 := hall e he hb
          have hp : (if t - 1 = q then t - 2 else t - 1) ≠ q ∧ n ≤ (if t - 1 = q then t - 2 else t - 1) ∧ (if t - 1 = q then t - 2 else t - 1) < ops.size := by
            split
            · refine ⟨by omega, by omega, by omega⟩
            · refine ⟨by omega, by omega, by omega⟩
          rw [hon, getD_both (inv.tail _ hp.2.1 hp.2.2 hp.1)] at h2
          cases h2
end

/-- the head in any order, then L -/
def hAnyL (P : Program) (n : Nat) (M : Tab) (md : Region.Mode) (ops : Array Oper) (m : Nat) (L : Array Bool → Slots → Prop) : Nat → Array Bool → Slots → Prop
  | 0, listed, σ => L listed σ
  | f + 1, listed, σ =>
    Region.ready md ops listed ≠ [] ∧ ∀ i ∈ Region.ready md ops listed, i < m ∧ hOp P n M ops i (hAnyL P n M md ops m L f (listed.setIfInBounds i true)) σ

section
variable {B0 : Nat} {X : Xs} {I0 : Nat → Prop} {w0 : World} {n : Nat} {M : Tab} {P : Program} {ops : Array Oper} {md : Region.Mode}

theorem wpAny_of_headL {m g : Nat} {L : Array Bool → Slots → Prop} {Q' : Exit → Act → World → Prop} (hL : ∀ listed σ a w, St B0 X I0 w0 n σ M a w → L listed σ → wpAny P md ops Q' g listed a w) :
    ∀ (f : Nat) (listed : Array Bool) (σ : Slots) (a : Act) (w : World), St B0 X I0 w0 n σ M a w → hAnyL P n M md ops m L f listed σ → wpAny P md ops Q' (f + g) listed a w
  | 0, listed, σ, a, w, hs, h => by rw [Nat.zero_add]; exact hL _ _ _ _ hs h
  | f + 1, listed, σ, a, w, hs, h => by
    rw [show f + 1 + g = (f + g) + 1 by omega]
    exact ⟨fun h0 => absurd h0 h.1, fun i hi => wpOp_of_hOp hs (fun σ' a' w' hs' h' => wpAny_of_headL hL f _ σ' a' w' hs' h') (h.2 i hi).2⟩

theorem hAnyL_first {m q i : Nat} {oi : Oper} {d : D} {L : Array Bool → Slots → Prop} (hi : ops[i]? = some oi)
    (hs : Region.sinkB md ops m = true) (hc : chainQ md ops m q = true) (hq : q ≠ m) (hn : m < ops.size) (hin : i < m)
    (hdone : ∀ listed σ, L listed σ → ∀ j ∈ Region.ready md ops listed, m ≤ j) :
    ∀ (f : Nat) (listed : Array Bool) (σ : Slots), HeadQ md ops m q listed →
      (∀ j oj, ops[j]? = some oj → j ≠ i → listed.getD j true = false → (∀ e ∈ oj.after, Region.binds md e = true → e.on ≠ i) → oi.apart ops oj = true) →
      i ∈ Region.ready md ops listed → YA P n M ops oi d σ →
      hAnyL P n M md ops m L f (listed.setIfInBounds i true) (putA σ oi.dst d) → hAnyL P n M md ops m L (f + 1) listed σ := by
  have now : ∀ {σ : Slots} {K : Slots → Prop}, YA P n M ops oi d σ → K (putA σ oi.dst d) → hOp P n M ops i K σ := by
    intro σ K hy hk
    unfold hOp
    simp only [hi]
    exact ⟨d, hy, hk⟩
  intro f
  induction f with
  | zero =>
    intro listed σ inv _ hr hy H
    have hun := (mem_ready.1 hr).1
    refine ⟨fun h => (by rw [h] at hr; cases hr), fun j hj => ?_⟩
    have hjn : j < m := by
      rcases Nat.lt_or_ge j m with h | h
      · exact h
      · exact absurd hj (tail_waitsQ hs hc hq hn inv _ i rfl hin hun j h)
    refine ⟨hjn, ?_⟩
    by_cases hji : j = i
    · subst hji; exact now hy H
    · have := hdone _ _ H j (ready_mono hj hji)
      omega
  | succ f ih =>
    intro listed σ inv hfree hr hy H
    have hun := (mem_ready.1 hr).1
    refine ⟨fun h => (by rw [h] at hr; cases hr), fun j hj => ?_⟩
    have hjn : j < m := by
      rcases Nat.lt_or_ge j m with h | h
      · exact h
      · exact absurd hj (tail_waitsQ hs hc hq hn inv _ i rfl hin hun j h)
    refine ⟨hjn, ?_⟩
    by_cases hji : j = i
    · subst hji; exact now hy H
    · have h1 := (H.2 j (ready_mono hj hji)).2
      obtain ⟨hjun, oj, hoj, hall⟩ := mem_ready.1 hj
      have hnot : ∀ e ∈ oj.after, Region.binds md e = true → e.on ≠ i := fun e he hb heq => by
        have h1 := hall e he hb
        rw [heq, getD_both hun] at h1
        cases h1
      have h2 := hOp_put hoj (hfree j oj hoj hji hjun hnot) hy h1
      have hfree' : ∀ k ok, ops[k]? = some ok → k ≠ i → (listed.setIfInBounds j true).getD k true = false →
          (∀ e ∈ ok.after, Region.binds md e = true → e.on ≠ i) → oi.apart ops ok = true := fun k ok hk hki hun hno => by
        refine hfree k ok hk hki ?_ hno
        by_cases hjk : j = k
        · subst hjk; exact hjun
        · rw [getD_set_ne true hjk] at hun; exact hun
      refine hOp_mono (fun σ' h3 => ih (listed.setIfInBounds j true) σ' (inv.set hj hjn) hfree' (ready_mono hr (Ne.symm hji)) h3.1 ?_) h2
      rw [Array.setIfInBounds_comm _ _ hji]
      exact h3.2

/-- nothing but one at a time, in this order -/
def seqL (md : Region.Mode) (ops : Array Oper) : List Nat → Array Bool → Bool
  | [], listed => (Region.ready md ops listed).isEmpty
  | k :: r, listed => decide (Region.ready md ops listed = [k]) && seqL md ops r (listed.setIfInBounds k true)

theorem wpAny_of_seqL {Q' : Exit → Act → World → Prop} : ∀ (js : List Nat) (l : List Oper) (listed : Array Bool) (a : Act) (w : World), js.map (ops[·]?) = l.map some →
    seqL md ops js listed = true → wpList P ops Q' l a w → wpAny P md ops Q' js.length listed a w
  | [], l, _, _, _, hl, hB, h => by
    have : l = [] := by simpa using hl
    subst this
    exact ⟨by simpa [seqL] using hB, h⟩
  | k :: js, l, listed, a, w, hl, hB, h => by
    cases l with
    | nil => simp at hl
    | cons o l =>
      simp only [List.map_cons, List.cons.injEq] at hl
      simp only [seqL, Bool.and_eq_true, decide_eq_true_eq] at hB
      refine ⟨fun h1 => (by rw [hB.1] at h1; cases h1), fun i hi => ?_⟩
      rw [hB.1] at hi
      have hik : i = k := by simpa using hi
      subst hik
      have hw : wpOp P ops Q' i (wpList P ops Q' l) a w := by unfold wpOp; simp only [hl.1]; exact h
      exact wpOp_mono (fun a' w' h' => wpAny_of_seqL js l _ a' w' hl.2 hB.2 h') hw

def lexHeadQ (md : Region.Mode) (ops : Array Oper) (js : List Nat) : Nat → Nat → Array Bool → Bool
  | 0, _, listed => seqL md ops js listed && (Region.ready md ops listed).all fun j => decide (js.contains j)
  | f + 1, k, listed => (Region.ready md ops listed).contains k && Region.free md ops listed k && lexHeadQ md ops js f (k + 1) (listed.setIfInBounds k true)

theorem hAnyL_lex {m q : Nat} {js : List Nat} {Lq : Slots → Prop} (hs : Region.sinkB md ops m = true) (hc : chainQ md ops m q = true) (hq : q ≠ m) (hn : m < ops.size) (hjs : ∀ j ∈ js, m ≤ j) :
    ∀ (l : List Oper) (k : Nat) (listed : Array Bool) (σ : Slots), (∀ j, j < l.length → l[j]? = ops[k + j]?) → k + l.length = m → HeadQ md ops m q listed →
    lexHeadQ md ops js l.length k listed = true → hOps P n M ops l σ Lq →
    hAnyL P n M md ops m (fun listed' σ' => (seqL md ops js listed' = true ∧ ∀ j ∈ Region.ready md ops listed', m ≤ j) ∧ Lq σ') l.length listed σ
  | [], k, listed, σ, _, hk, _, hB, h => by
    simp only [List.length_nil, lexHeadQ, Bool.and_eq_true] at hB
    refine ⟨⟨hB.1, fun j hj => ?_⟩, h⟩
    have := List.all_eq_true.1 hB.2 j hj
    exact hjs j (by simpa using this)
  | o :: l, k, listed, σ, hl, hk, inv, hB, h => by
    have h0 : ops[k]? = some o := by simpa using (hl 0 (by simp)).symm
    simp only [List.length_cons, lexHeadQ, Bool.and_eq_true] at hB
    obtain ⟨⟨hr, hf⟩, hB'⟩ := hB
    have hkn : k < m := by simp only [List.length_cons] at hk; omega
    have hr' : k ∈ Region.ready md ops listed := by simpa using hr
    obtain ⟨d, hy, hK⟩ := YA_of_hOps h
    exact hAnyL_first h0 hs hc hq hn hkn (fun listed' σ' hL => hL.1.2) l.length listed σ inv (Region.free_spec h0 hf) hr' hy
      (hAnyL_lex hs hc hq hn hjs l (k + 1) _ _ (fun j hj => by have := hl (j + 1) (by simp; omega); simpa [Nat.add_assoc, Nat.add_comm 1 j] using this) (by simp only [List.length_cons] at hk; omega) (inv.set hr' hkn) hB' hK)

/-- the rest behind m operations ('pull': without the second of the rest, which was done first) -/
def pullL : List Oper → List Oper
  | e :: _ :: r => e :: r
  | l => l
def dropQ (pull : Bool) (m : Nat) (l : List Oper) : List Oper := match pull with | true => pullL (l.drop m) | false => l.drop m

def tailB (ops : Array Oper) (m : Nat) : Bool :=
  decide (m < ops.size) && Region.sinkB .any ops m && chainQ .any ops m ops.size && lexHeadQ .any ops (List.range' m (ops.size - m)) m 0 (Array.replicate ops.size false)
def pullB (ops : Array Oper) (m : Nat) : Bool :=
  Region.noSelect ops && decide (m + 2 < ops.size) && Region.sinkB .any ops m && chainQ .any ops m (m + 1) && (Region.ready .any ops (Array.replicate ops.size false)).contains (m + 1) && Region.free .any ops (Array.replicate ops.size false) (m + 1) &&
    lexHeadQ .any ops (m :: List.range' (m + 2) (ops.size - (m + 2))) m 0 ((Array.replicate ops.size false).setIfInBounds (m + 1) true)

theorem range'_map (l : List Oper) : ∀ (k m : Nat), m + k = l.length → (List.range' m k).map (l.toArray[·]?) = (l.drop m).map some
  | 0, m, h => by simp [List.drop_eq_nil_of_le (by omega : l.length ≤ m)]
  | k + 1, m, h => by
    have hm : m < l.length := by omega
    rw [List.range'_succ, List.map_cons, List.drop_eq_getElem_cons hm, List.map_cons, range'_map l k (m + 1) (by omega)]
    simp [hm]

/-- A REGION THAT DRAWS ITS ORDER and ends in operations with an effect. -/
theorem t_drawTail {id : Nat} {l : List Oper} {Q : Ex → Slots → Tab → Prop} {σ : Slots} (m : Nat) (hm : P.follows .mixedOrders = true) (hB : tailB l.toArray m = true)
    (h : ∀ K : Slots → Tab → Prop, (∀ σ M, Q .normal σ M → K σ M) → hOps P n M l.toArray (l.take m) σ fun σ' => aOps P n l.toArray (dropQ false m l) σ' M K) : Tr P n (.region id l.toArray true) Q σ M := by
  intro B0 X I0 w0 a w hs
  simp only [tailB, Bool.and_eq_true, decide_eq_true_eq] at hB
  obtain ⟨⟨⟨hn, hsk⟩, hc⟩, hlex⟩ := hB
  have hn' : m < l.length := by simpa using hn
  have htl : (l.take m).length = m := by simp; omega
  have inv0 : HeadQ .any l.toArray m l.toArray.size (Array.replicate l.toArray.size false) :=
    ⟨by simp, fun j oj _ hl => (by rw [getD_replicate_false] at hl; cases hl), fun t _ ht _ => getD_in (by simpa using ht) (getD_replicate_false _ _), fun hq => absurd hq (Nat.lt_irrefl _)⟩
  have H := hAnyL_lex (P := P) (n := n) (M := M) (md := .any) (js := List.range' m (l.toArray.size - m)) hsk hc (by omega) hn (fun j hj => (List.mem_range'_1.1 hj).1) (l.take m) 0 _ σ (fun j hj => by
    have hj' : j < m := by rw [htl] at hj; exact hj
    simp [hj']) (by simpa using htl) inv0 (by rw [htl]; exact hlex) (h _ (fun _ _ h => h))
  obtain ⟨Im, β, hg⟩ := hs
  refine wp_region_any hm ?_
  have := wpAny_of_headL (B0 := B0) (X := X) (I0 := I0) (w0 := w0) (Q' := fun e a' w' => ∃ x σ' M', St B0 X I0 w0 n σ' M' a' w' ∧ Q x σ' M' ∧ match x with | .normal => e = .normal | .exit id => e = .exit id | .ret => e = .ret) (g := (List.range' m (l.toArray.size - m)).length) (fun listed σ' a' w' hs' hL => by
    refine wpAny_of_seqL (List.range' m (l.toArray.size - m)) (l.drop m) listed a' w' (range'_map l _ m (by simp; omega)) hL.1.1 ?_
    exact aOps_sound (l.drop m) σ' M a' w' _ hs' (by simpa [dropQ] using hL.2) fun σ' M' _ _ h1 h2 => ⟨.normal, σ', M', h1, h2, rfl⟩) _ _ _ _ _ ⟨Im, β, hg.drew⟩ H
  rw [htl, List.length_range', show m + (l.toArray.size - m) = l.toArray.size by omega] at this
  exact this

theorem fld_run {s f : Nat} {fs : List (Nat × Nat)} (hd : (tI P s).d = .struct fs) (hf : f < fs.length) (hz : (fs.getD f (0, 0)).2 ≠ 0) (b o : Nat) (w : World) : (Instr.fieldAt s (.pointer (some ⟨b, o, none⟩)) f).run P w = .ok (.pointer (some ⟨b, o + (fs.getD f (0, 0)).1, none⟩)) w := by
  obtain ⟨fl, hu, rfl⟩ := tI_struct hd
  have hf' : f < fl.size := by simpa using hf
  have e1 : ((fl.toList.map fun f => (f.offset, ((P.info? f.type).map (·.size)).getD 0)).getD f (0, 0)) = ((fl[f]).offset, ((P.info? (fl[f]).type).map (·.size)).getD 0) := by
    simp [List.getD, hf']
  rw [e1] at hz ⊢
  simp only at hz
  obtain ⟨i, hi, hsz⟩ := info_of_size hz
  have e2 : fl[f]? = some fl[f] := by simp [hf']
  simp only [Instr.fieldAt, Sem.run_bind, run_underlying hu, Result.andThen_ok, e2, Instr.sureAddr, Sem.run_pure, fieldPlace, Go.sizeOf, typeInfo, program]
  rw [hsz] at hz
  simp [Sem.run, hi, hz, Addr.add_lit]

theorem fld_yields {Im : Nat → Prop} {β : Nat → RowG} {σ : Slots} {a : Act} {w : World} (h : StG B0 X I0 w0 n Im β σ M a w) {o : Oper} {s f : Nat} {x : Operand} (ho : o.op = .fieldAddr s x f) {K : D → Prop} (hq : qv P M (ev σ) K (.fieldAddr s x f)) :
    ∃ v d, (∀ w', (execOp a.eval o).run P w' = .ok (.value v) w') ∧ Rv w Im β M d v ∧ K d := by
  simp only [qv] at hq
  split at hq
  · rename_i fs id i off hd hc
    obtain ⟨h2, h3, h4⟩ := hq
    have h1 := h.ev x
    rw [hc] at h1
    simp only [Rv] at h1
    obtain ⟨hs, hnil, h1⟩ := h1
    refine ⟨.pointer (some ⟨(β id).blk, i * (β id).sz + off + (fs.getD f (0, 0)).1, none⟩), _, ?_, ?_, h4⟩
    · intro w'; simp only [execOp, ho, h1, Sem.run_bind, fld_run hd h2 h3, Result.andThen_ok]; rfl
    · simp only [Rv]; exact ⟨hs, hnil, by rw [Nat.add_assoc]⟩
  · rename_i fs row off hd hc
    obtain ⟨h2, h3, h4⟩ := hq
    have h1 := h.ev x
    rw [hc] at h1
    simp only [Rv, Rc] at h1
    obtain ⟨b, o', h1, hb, hr⟩ := h1
    refine ⟨.pointer (some ⟨b, o' + off + (fs.getD f (0, 0)).1, none⟩), _, ?_, ?_, h4⟩
    · intro w'; simp only [execOp, ho, h1, Sem.run_bind, fld_run hd h2 h3, Result.andThen_ok]; rfl
    · simp only [Rv, Rc]; exact ⟨b, o', by rw [Nat.add_assoc], hb, hr⟩
  · exact hq.elim

/-- The same, where the second operation of the rest is the address of a field: it is done first. -/
theorem t_drawPull {id : Nat} {l : List Oper} {Q : Ex → Slots → Tab → Prop} {σ : Slots} {dq s f : Nat} {x : Operand} {ty : TypeId} {pos : String} {after : Array Edge} (m : Nat) (hm : P.follows .mixedOrders = true) (hB : pullB l.toArray m = true)
    (hq : l[m + 1]? = some ⟨some dq, .fieldAddr s x f, ty, pos, after, none⟩) (hdq : dq < n)
    (h : ∀ K : Slots → Tab → Prop, (∀ σ M, Q .normal σ M → K σ M) → ∀ K' : D → Prop, (∀ d, hOps P n M l.toArray (l.take m) (upd σ dq d) (fun σ' => aOps P n l.toArray (dropQ true m l) σ' M K) → K' d) → qv P M (ev σ) K' (.fieldAddr s x f)) : Tr P n (.region id l.toArray true) Q σ M := by
  intro B0 X I0 w0 a w hs
  simp only [pullB, Bool.and_eq_true, decide_eq_true_eq] at hB
  obtain ⟨⟨⟨⟨⟨⟨hsel, hn⟩, hsk⟩, hc⟩, hrd⟩, hfr⟩, hlex⟩ := hB
  have hn' : m + 2 < l.length := by simpa using hn
  have htl : (l.take m).length = m := by simp; omega
  have hqa : l.toArray[m + 1]? = some ⟨some dq, .fieldAddr s x f, ty, pos, after, none⟩ := by simpa using hq
  have hrd' : m + 1 ∈ Region.ready .any l.toArray (Array.replicate l.toArray.size false) := by simpa using hrd
  obtain ⟨Im, β, hg⟩ := hs
  have hg1 := hg.drew
  obtain ⟨v, d, hy, hv, hK⟩ := fld_yields (o := ⟨some dq, .fieldAddr s x f, ty, pos, after, none⟩) hg1 rfl (h _ (fun _ _ h => h) _ (fun _ h => h))
  have inv0 : HeadQ .any l.toArray m (m + 1) ((Array.replicate l.toArray.size false).setIfInBounds (m + 1) true) := by
    refine ⟨by simp, fun j oj hj hl e he hb => ?_, fun t _ ht hne => ?_, fun hq => ?_⟩
    · by_cases hjm : m + 1 = j
      · subst hjm
        obtain ⟨_, o', ho', hall⟩ := mem_ready.1 hrd'
        have : oj = o' := Option.some.inj (hj.symm.trans ho')
        subst this
        exact getD_set_true (hall e he hb)
      · rw [getD_set_ne false hjm, getD_replicate_false] at hl; cases hl
    · rw [getD_set_ne true (Ne.symm hne)]; exact getD_in (by simpa using ht) (getD_replicate_false _ _)
    · simp; omega
  have hjs : ∀ j ∈ m :: List.range' (m + 2) (l.toArray.size - (m + 2)), m ≤ j := by
    intro j hj
    rcases List.mem_cons.1 hj with rfl | hj
    · exact Nat.le_refl _
    · have := (List.mem_range'_1.1 hj).1; omega
  have H := hAnyL_lex (P := P) (n := n) (M := M) (md := .any) (js := m :: List.range' (m + 2) (l.toArray.size - (m + 2))) hsk hc (by omega) (by omega) hjs (l.take m) 0 _ (upd σ dq d) (fun j hj => by
    have hj' : j < m := by rw [htl] at hj; exact hj
    simp [hj']) (by simpa using htl) inv0 (by rw [htl]; exact hlex) hK
  refine wp_region_any hm ?_
  have hdrop : l.drop m = l[m] :: l[m + 1] :: l.drop (m + 2) := by rw [List.drop_eq_getElem_cons (by omega), List.drop_eq_getElem_cons (by omega)]
  have hmap : (m :: List.range' (m + 2) (l.toArray.size - (m + 2))).map (l.toArray[·]?) = (dropQ true m l).map some := by
    simp only [dropQ, hdrop, pullL, List.map_cons]
    rw [range'_map l _ (m + 2) (by simp; omega)]
    simp [show m < l.length by omega]
  have := wpAny_of_headL (B0 := B0) (X := X) (I0 := I0) (w0 := w0) (Q' := fun e a' w' => ∃ x σ' M', St B0 X I0 w0 n σ' M' a' w' ∧ Q x σ' M' ∧ match x with | .normal => e = .normal | .exit id => e = .exit id | .ret => e = .ret) (g := (m :: List.range' (m + 2) (l.toArray.size - (m + 2))).length) (fun listed σ' a' w' hs' hL => by
    refine wpAny_of_seqL (m :: List.range' (m + 2) (l.toArray.size - (m + 2))) (dropQ true m l) listed a' w' hmap hL.1.1 ?_
    exact aOps_sound (dropQ true m l) σ' M a' w' _ hs' hL.2 fun σ' M' _ _ h1 h2 => ⟨.normal, σ', M', h1, h2, rfl⟩) _ _ _ _ _ ⟨Im, β, hg1.put hdq hv⟩ H
  rw [htl, List.length_cons, List.length_range', show m + (l.toArray.size - (m + 2) + 1) = l.toArray.size - 1 by omega] at this
  have hfin := wpAny_first (P := P) (md := .any) hqa (Region.noSelect_spec hsel) (v := v) (by
    rintro c a' w' ⟨x, σ', M', _, _, hx⟩
    cases x <;> simp at hx) (l.toArray.size - 1) (Array.replicate l.toArray.size false) a _ (Region.free_spec hqa hfr) hrd' (.inl ⟨rfl, hy⟩) this
  rw [show l.toArray.size - 1 + 1 = l.toArray.size by omega] at hfin
  exact hfin

/-! ### the steps -/
variable {σ : Slots} {K : Slots → Prop}
theorem ht_nil {l : List Oper} (h : K σ) : hOps P n M ops (List.take 0 l) σ K := by simpa [hOps] using h
theorem ht_plain {dst m : Nat} {op : Op} {type : TypeId} {pos : String} {after : Array Edge} {rest : List Oper} (hd : dst < n)
    (h : ∀ K' : D → Prop, (∀ d, hOps P n M ops (List.take m rest) (upd σ dst d) K → K' d) → hv P M (ev σ) K' op) : hOps P n M ops (List.take (m + 1) (⟨some dst, op, type, pos, after, none⟩ :: rest)) σ K := by
  rw [List.take_succ_cons]; exact h_plain hd h
theorem ht_guard {m : Nat} {dst : Option Tmp} {op : Op} {type : TypeId} {pos : String} {after : Array Edge} {j : Nat} {want : Bool} {rest : List Oper} (d : Nat) (hd : (ops[j]?).bind (·.dst) = some d)
    (h : ∀ A B : Prop, (hOps P n M ops (List.take (m + 1) (⟨dst, op, type, pos, after, none⟩ :: rest)) σ K → A) → (skipQ n dst σ (fun σ' => hOps P n M ops (List.take m rest) σ' K) → B) → grdQ (σ d) want A B) :
    hOps P n M ops (List.take (m + 1) (⟨dst, op, type, pos, after, some (j, want)⟩ :: rest)) σ K := by
  rw [List.take_succ_cons]
  refine h_guard d hd fun A B hA hB => h A B (fun hh => hA ?_) hB
  rwa [List.take_succ_cons] at hh
variable {KT : Slots → Tab → Prop}
theorem dq_succ {b : Bool} {m : Nat} {o : Oper} {rest : List Oper} (h : aOps P n ops (dropQ b m rest) σ M KT) : aOps P n ops (dropQ b (m + 1) (o :: rest)) σ M KT := by
  cases b <;> simpa [dropQ] using h
theorem dq_f {l : List Oper} (h : aOps P n ops l σ M KT) : aOps P n ops (dropQ false 0 l) σ M KT := h
theorem dq_t {e q : Oper} {r : List Oper} (h : aOps P n ops (e :: r) σ M KT) : aOps P n ops (dropQ true 0 (e :: q :: r)) σ M KT := h
end
end Go.Proofs.Ytgdldeggoflabaa

/- '==' at a struct of ints. -/
namespace Go.Proofs.Ytgdldeggoflabaa
open Go.RowKit

/-- the fields are so many ints, side by side, from this place on -/
def intFields (P : Program) : Nat → List Field → Bool
  | _, [] => true
  | k, f :: fs => f.offset == k && f.name != "_" && P.plainKey f.type && (match P.underlying f.type with | some (.int _) => true | _ => false) && intFields P (k + 1) fs
def eqTyB (P : Program) (t : TypeId) (m : Nat) : Bool :=
  (match P.underlying t with | some (.struct _) => true | _ => false) && !P.stoodInHeld t && !P.eqGuardType P.depth t && intFields P 0 (P.fieldsOf t).toList && (P.fieldsOf t).size == m

theorem eqFields_run {P : Program} {w : World} {d : Nat} {xs ys : List Int} (hxy : xs.length = ys.length) : ∀ (fs : List Field) (k : Nat), intFields P k fs = true → k + fs.length = xs.length →
    (Op.eqFields (d + 1) (xs.map (Value.int .i64)).toArray (ys.map (Value.int .i64)).toArray fs).run P w = .ok (decide (xs.drop k = ys.drop k)) w
  | [], k, _, hl => by
    have h1 : xs.drop k = [] := List.drop_eq_nil_of_le (by simp at hl; omega)
    have h2 : ys.drop k = [] := List.drop_eq_nil_of_le (by simp at hl; omega)
    simp [Op.eqFields, h1, h2]
  | f :: fs, k, h, hl => by
    simp only [intFields, Bool.and_eq_true] at h
    obtain ⟨⟨⟨⟨h1, h2⟩, h3⟩, h4⟩, h5⟩ := h
    have hk : k < xs.length := by simp at hl; omega
    have hk' : k < ys.length := by omega
    have ho : f.offset = k := by simpa using h1
    have px : (part f.type (xs.map (Value.int .i64)).toArray f.offset).run P w = .ok (.int .i64 xs[k]) w := run_part_plain w h3 (by simp [ho, hk])
    have py : (part f.type (ys.map (Value.int .i64)).toArray f.offset).run P w = .ok (.int .i64 ys[k]) w := run_part_plain w h3 (by simp [ho, hk'])
    have ih := eqFields_run (w := w) (d := d) hxy fs (k + 1) h5 (by simp at hl; omega)
    have hd : xs.drop k = xs[k] :: xs.drop (k + 1) := List.drop_eq_getElem_cons hk
    have hd' : ys.drop k = ys[k] :: ys.drop (k + 1) := List.drop_eq_getElem_cons hk'
    have hn : f.name ≠ "_" := by simpa using h2
    split at h4
    · rename_i kk hu
      simp only [Op.eqFields, if_pos hn, Sem.run_bind, px, py, Result.andThen_ok, run_equalIn_int w d f.type .i64 kk _ _ hu]
      have hz : decide (xs.drop k = ys.drop k) = (decide (xs[k] = ys[k]) && decide (xs.drop (k + 1) = ys.drop (k + 1))) := by
        rw [hd, hd']; simp only [List.cons.injEq, Bool.decide_and]
      rw [hz]
      by_cases he : xs[k] = ys[k]
      · simp [he, ih]
      · simp [he]
    · cases h4

theorem aggEq_of {P : Program} {t : TypeId} {m : Nat} (h : eqTyB P t m = true) : AggEq P t m := by
  simp only [eqTyB, Bool.and_eq_true, Bool.not_eq_true'] at h
  obtain ⟨⟨⟨⟨h1, h2⟩, h3⟩, h4⟩, h5⟩ := h
  have ht : P.underlying t = some (.struct (P.fieldsOf t)) := by
    unfold Program.fieldsOf
    split at h1
    · rename_i fs hu; simp [hu]
    · cases h1
  intro w x y xs ys hx hy
  have hm : (P.fieldsOf t).toList.length = m := by simpa using h5
  have key := eqFields_run (P := P) (w := w) (d := 9998) (xs := xs) (ys := ys) (by omega) (P.fieldsOf t).toList 0 h4 (by omega)
  simp only [List.drop_zero] at key
  constructor
  · simp only [Sem.run_bind, run_eqGuard_agg w _ t x y _ _ h3, Result.andThen_ok, run_eql_struct, run_equalIn_agg w 9999 t _ _ ht h2, key]
  · simp only [Sem.run_bind, run_eqGuard_agg w _ t x y _ _ h3, Result.andThen_ok, run_neq_struct, run_equalIn_agg w 9999 t _ _ ht h2, key]
end Go.Proofs.Ytgdldeggoflabaa

/- From a law's contract to its call. -/
namespace Go.Proofs.Ytgdldeggoflabaa
open Go.RowKit

theorem law_calls {P : Program} {f : FuncId} {ds : List D} (h : ACall P f ds (.bool true) []) {w : World} {vs : List Value} (hv : RcL w (fun b => b < w.heap.size) ds vs) :
    Calls P f vs.toArray w fun e w' => e = .returned (.bool true) ∧ Below w.heap.size w w' := by
  refine (h.2 w vs _ (fun _ h => h) hv).mono ?_
  rintro e w' ⟨v, rfl, hb, Im, β, _, _, h3, _, _⟩
  refine ⟨?_, hb⟩
  simp only [Rv, Rc] at h3
  rw [h3]
theorem ints4 {x : List D} (h : IsL [.int .i64, .int .i64, .int .i64, .int .i64] x) : ∃ a b c d, x = [.int .i64 a, .int .i64 b, .int .i64 c, .int .i64 d] := by
  simp only [IsL, IsC] at h
  obtain ⟨_, _, rfl, ⟨a, rfl, _⟩, _, _, rfl, ⟨b, rfl, _⟩, _, _, rfl, ⟨c, rfl, _⟩, _, _, rfl, ⟨d, rfl, _⟩, rfl⟩ := h
  exact ⟨a, b, c, d, rfl⟩
theorem ints5 {x : List D} (h : IsL [.int .i64, .int .i64, .int .i64, .int .i64, .int .i64] x) : ∃ a b c d e, x = [.int .i64 a, .int .i64 b, .int .i64 c, .int .i64 d, .int .i64 e] := by
  simp only [IsL, IsC] at h
  obtain ⟨_, _, rfl, ⟨a, rfl, _⟩, _, _, rfl, ⟨b, rfl, _⟩, _, _, rfl, ⟨c, rfl, _⟩, _, _, rfl, ⟨d, rfl, _⟩, _, _, rfl, ⟨e, rfl, _⟩, rfl⟩ := h
  exact ⟨a, b, c, d, e, rfl⟩
theorem isInt {x : D} (h : IsC (.int .i64) x) : ∃ a, x = .int .i64 a := by
  simp only [IsC] at h
  obtain ⟨a, rfl, _⟩ := h
  exact ⟨a, rfl⟩
end Go.Proofs.Ytgdldeggoflabaa

/- Weakening of written-out states; loops. -/
namespace Go.Proofs.Ytgdldeggoflabaa
open Go.RowKit

theorem Imp.trans {n : Nat} {σ σ' σ'' : Slots} {M M' M'' : Tab} (h : Imp n σ M σ' M') (h' : Imp n σ' M' σ'' M'') : Imp n σ M σ'' M'' := fun _ _ _ _ _ _ hs => h' _ _ _ _ _ _ (h _ _ _ _ _ _ hs)

/-- an entry of the table is dropped, and with it every mention of it -/
theorem imp_drop' {n : Nat} {σ : Slots} {M : Tab} (x : Nat) : Imp n σ M (scrS x σ) (fun j => if j = x then none else scrM x M j) := by
  rintro B0 X I0 w0 a w ⟨Im, β, h⟩
  have hag : AgreeBut x β β M (fun j => if j = x then none else scrM x M j) := by
    intro id hid hs
    obtain ⟨e, he⟩ := Option.isSome_iff_exists.1 hs
    refine ⟨rfl, by simp [hid, scrM, he], ?_⟩
    simp only [hid, if_false, scrM, he, Option.map_some, Option.bind_some]
    cases e <;> simp [Ent.scr, Ent.len]
  have hget : ∀ {j e}, (if j = x then none else scrM x M j) = some e → j ≠ x ∧ ∃ e0, M j = some e0 ∧ e = e0.scr x := by
    intro j e hj
    by_cases hjx : j = x
    · simp [hjx] at hj
    · simp only [hjx, if_false, scrM, Option.map_eq_some_iff] at hj
      obtain ⟨e0, h1, h2⟩ := hj
      exact ⟨hjx, e0, h1, h2.symm⟩
  refine ⟨Im, β, { defers := h.defers, size := h.size, slots := ?_, hi := ?_, im := h.im, tab := ?_, own := ?_, inj := ?_, base := h.base, fr := h.fr, imo := h.imo, pin := h.pin, small := h.small }⟩
  · exact fun i hi => Rv_scr (fun _ _ _ => rfl) (fun _ hb => hb) hag _ _ (h.slots i hi)
  · intro i hi; rcases h.hi i hi with e | e <;> simp [scrS, e, scr]
  · intro j e hj
    obtain ⟨hjx, e0, he0, rfl⟩ := hget hj
    exact EntOk_scr (fun _ _ _ => rfl) (fun _ hb => hb) hag (fun hn => h.not_im he0 hn) (fun _ => rfl) e0 (h.tab j e0 he0)
  · intro j e hj hn
    obtain ⟨_, e0, he0, rfl⟩ := hget hj
    exact h.own j e0 he0 hn
  · intro j j' hj hj' hn hn' he
    obtain ⟨e, hje⟩ := Option.isSome_iff_exists.1 hj
    obtain ⟨e', hje'⟩ := Option.isSome_iff_exists.1 hj'
    obtain ⟨_, e0, he0, _⟩ := hget hje
    obtain ⟨_, e1, he1, _⟩ := hget hje'
    exact h.inj j j' (by simp [he0]) (by simp [he1]) hn hn' he

theorem imp_drop {n : Nat} {l : List (Nat × D)} {m : List (Nat × Ent)} {σ' : Slots} {M' : Tab} (x : Nat) (h : Imp n (mk (scrP x l)) (mkT (del x (scrT x m))) σ' M') : Imp n (mk l) (mkT m) σ' M' := by
  refine Imp.trans (imp_drop' x) ?_
  have e1 : (fun j => if j = x then none else scrM x (mkT m) j) = mkT (del x (scrT x m)) := by
    funext j; rw [mkT_del, ← scrM_mkT]
  rw [e1, scrS_mk]
  exact h

/-- what is kept of the slots, of the table -/
def Keep (l : List (Nat × D)) : List (Nat × D) → Prop
  | [] => True
  | (i, d) :: r => mk l i = d ∧ Keep l r
def KeepT (m : List (Nat × Ent)) : List (Nat × Ent) → Prop
  | [] => True
  | (i, e) :: r => mkT m i = some e ∧ KeepT m r
theorem keep_get {l : List (Nat × D)} : ∀ {l' : List (Nat × D)} (i : Nat), Keep l l' → mk l' i = mk l i ∨ mk l' i = .any
  | [], i, _ => .inr rfl
  | (j, d) :: r, i, h => by
    simp only [Keep] at h
    simp only [mk]
    split
    · rename_i e; subst e; exact .inl h.1.symm
    · exact keep_get i h.2
theorem keepT_get {m : List (Nat × Ent)} : ∀ {m' : List (Nat × Ent)} (i : Nat), KeepT m m' → (mkT m' i).isSome = true → mkT m' i = mkT m i
  | [], i, _, h => by simp [mkT] at h
  | (j, d) :: r, i, h, hs => by
    simp only [KeepT] at h
    simp only [mkT] at hs ⊢
    split
    · rename_i e; subst e; exact h.1.symm
    · rename_i e; rw [if_neg e] at hs; exact keepT_get i h.2 hs
def keysIn (m m' : List (Nat × Ent)) : Bool := m.all fun p => m'.any fun q => q.1 == p.1
theorem keysIn_get {m' : List (Nat × Ent)} : ∀ {m : List (Nat × Ent)} (i : Nat), keysIn m m' = true → (mkT m i).isSome = true → (mkT m' i).isSome = true := by
  have key : ∀ (r : List (Nat × Ent)) (i : Nat), (r.any fun q => q.1 == i) = true → (mkT r i).isSome = true := by
    intro r i h
    induction r with
    | nil => simp at h
    | cons q r ih =>
      obtain ⟨j, e⟩ := q
      simp only [mkT]
      split
      · rfl
      · rename_i hne
        simp only [List.any_cons, Bool.or_eq_true, beq_iff_eq] at h
        rcases h with h | h
        · exact absurd h.symm hne
        · exact ih h
  intro m i h hs
  induction m with
  | nil => simp [mkT] at hs
  | cons q r ih =>
    obtain ⟨j, e⟩ := q
    simp only [keysIn, List.all_cons, Bool.and_eq_true] at h
    simp only [mkT] at hs
    split at hs
    · rename_i e'; subst e'; exact key m' i h.1
    · exact ih h.2 hs
theorem imp_keep {n : Nat} {l l' : List (Nat × D)} {m m' : List (Nat × Ent)} (h : Keep l l') (hT : KeepT m m') (hk : keysIn m m' = true) : Imp n (mk l) (mkT m) (mk l') (mkT m') := by
  have : mkT m' = mkT m := by
    funext i
    cases hm : mkT m i with
    | none =>
      cases hm' : mkT m' i with
      | none => rfl
      | some e => rw [← hm', keepT_get i hT (by simp [hm']), hm]
    | some e => rw [← hm]; exact keepT_get i hT (keysIn_get i hk (by simp [hm]))
  rw [this]
  exact imp_any fun i => keep_get i h

/-- the round's end -/
def Rnd {α : Type} (n : Nat) (Q : Ex → Slots → Tab → Prop) (S : α → List (Nat × D)) (T : α → List (Nat × Ent)) (I : α → Prop) (μ : α → Nat) (k : Nat) : Ex → Slots → Tab → Prop
  | .normal, σ, M => ∃ a, Imp n σ M (mk (S a)) (mkT (T a)) ∧ I a ∧ μ a < k
  | .exit i, σ, M => Q (.exit i) σ M
  | .ret, σ, M => Q .ret σ M
section
variable {α : Type} {P : Program} {n : Nat} {Q : Ex → Slots → Tab → Prop} {S : α → List (Nat × D)} {T : α → List (Nat × Ent)} {I : α → Prop} {μ : α → Nat} {k : Nat} {σ : Slots} {M : Tab}
theorem k_rndX {i : Nat} (h : Q (.exit i) σ M) : Rnd n Q S T I μ k (.exit i) σ M := h
theorem k_rndR (h : Q .ret σ M) : Rnd n Q S T I μ k .ret σ M := h
theorem k_rnd (a : α) (h : Imp n σ M (mk (S a)) (mkT (T a))) (hi : I a) (hm : μ a < k) : Rnd n Q S T I μ k .normal σ M := ⟨a, h, hi, hm⟩
end
/-- A LOOP over written-out states. -/
theorem t_loop {α : Type} {P : Program} {n : Nat} {Q : Ex → Slots → Tab → Prop} {c : Code} {σ : Slots} {M : Tab} (S : α → List (Nat × D)) (T : α → List (Nat × Ent)) (I : α → Prop) (μ : α → Nat) (a0 : α)
    (hi : Imp n σ M (mk (S a0)) (mkT (T a0))) (h0 : I a0) (round : ∀ a, I a → Tr P n c (Rnd n Q S T I μ (μ a)) (mk (S a)) (mkT (T a))) : Tr P n (.loop c) Q σ M := by
  refine Tr.weak hi ?_
  intro B0 X I0 w0 a w hs b kk cs
  have key : ∀ (k : Nat) (x : α) (a : Act) (w : World), μ x = k → I x → St B0 X I0 w0 n (mk (S x)) (mkT (T x)) a w →
      ∃ e a' w', (∃ x σ' M', St B0 X I0 w0 n σ' M' a' w' ∧ Q x σ' M' ∧ match x with | .normal => e = .normal | .exit id => e = .exit id | .ret => e = .ret) ∧ Arrives P (lone (b.at a (.code c :: .inLoop c :: kk)) cs w) b kk cs e a' w' := by
    intro k
    induction k using Nat.strongRecOn with
    | _ k ih =>
      intro y a w hk hI hs
      obtain ⟨e, a1, w1, hq, harr⟩ := round y hI B0 X I0 w0 a w hs b (.inLoop c :: kk) cs
      obtain ⟨x, σ', M', h1, h2, h3⟩ := hq
      cases x with
      | normal =>
        simp only at h3
        subst h3
        obtain ⟨y', hi, hI', hlt⟩ := h2
        obtain ⟨e2, a2, w2, hq2, harr2⟩ := ih (μ y') (by omega) y' a1 w1 rfl hI' (hi _ _ _ _ _ _ h1)
        exact ⟨e2, a2, w2, hq2, .of_steps (Steps.trans harr (.one step_inLoop)) harr2⟩
      | exit id => simp only at h3; subst h3; exact ⟨_, a1, w1, ⟨.exit id, σ', M', h1, h2, rfl⟩, .pass (x := .inLoop c) rfl (fun _ _ => .inl (by simp)) harr⟩
      | ret => simp only at h3; subst h3; exact ⟨_, a1, w1, ⟨.ret, σ', M', h1, h2, rfl⟩, .pass (x := .inLoop c) rfl (fun _ _ => .inl (by simp)) harr⟩
  obtain ⟨e, a', w', hq, harr⟩ := key _ a0 a w rfl h0 hs
  exact ⟨e, a', w', hq, .of_steps (.one step_loop) harr⟩
end Go.Proofs.Ytgdldeggoflabaa

/- A contract whose new rows are only read from now on. -/
namespace Go.Proofs.Ytgdldeggoflabaa
open Go.RowKit

theorem ACall.ro {P : Program} {f : FuncId} {ds : List D} {r : D} {rs : List (List (List D))} (h : ACall P f ds r rs) : ACall P f ds (view (tabOf rs) r) [] := by
  refine ⟨h.1, fun w vs Im him hvs => (h.2 w vs Im him hvs).mono ?_⟩
  rintro e w' ⟨v, he, hb, Im', β, h1, h2, h3, h4, h5⟩
  have hblk : ∀ k rows, rs[k]? = some rows → (β k).nil = false → (β k).blk < w'.heap.size := by
    intro k rows hk hn
    have := (h4 k rows hk).1
    simp only [EntOk] at this
    rcases this with ⟨g1, _⟩ | ⟨_, _, _, _, cur, e, g5, _⟩
    · rw [hn] at g1; cases g1
    · exact (Array.getElem?_eq_some_iff.1 g5).1
  refine ⟨v, he, hb, fun b => Im' b ∨ ∃ k, k < rs.length ∧ (β k).nil = false ∧ b = (β k).blk, β, ?_, ?_, ?_, by simp, by simp⟩
  · rintro b (hb | ⟨k, hk, hn, rfl⟩)
    · exact h1 b hb
    · exact .inr ((h4 k rs[k] (by simp [hk])).2 hn)
  · rintro b (hb | ⟨k, hk, hn, rfl⟩)
    · exact h2 b hb
    · exact hblk k rs[k] (by simp [hk]) hn
  · refine Rv_of_Rc _ _ (Rc_viewG (fun b hb => .inl hb) ?_ r v h3)
    intro id rows hid
    simp only [tabOf, Option.map_eq_some_iff, Ent.row.injEq] at hid
    obtain ⟨rows', h6, rfl⟩ := hid
    exact Rc_of_rows (fun b hb => .inl hb) (fun hn => .inr ⟨id, (List.getElem?_eq_some_iff.1 h6).1, hn, rfl⟩) (h4 id rows' h6).1
end Go.Proofs.Ytgdldeggoflabaa

/- A row that is only read from now on; a nil slice as an own row. -/
namespace Go.Proofs.Ytgdldeggoflabaa
open Go.RowKit

mutual
/-- the row x, now only read -/
def frz (x : Nat) (rows : List (List D)) : D → D
  | .ptr j i off => if j = x then .any else .ptr j i off
  | .fs j => if j = x then .sl rows else .fs j
  | .agg cs => .agg (frzL x rows cs)
  | .tup cs => .tup (frzL x rows cs)
  | .int k n => .int k n
  | .bool b => .bool b
  | .str s => .str s
  | .nov => .nov
  | .any => .any
  | .nl => .nl
  | .sl rows => .sl rows
  | .ep row off => .ep row off
def frzL (x : Nat) (rows : List (List D)) : List D → List D
  | [] => []
  | d :: ds => frz x rows d :: frzL x rows ds
end
def Ent.frz (x : Nat) (rows : List (List D)) : Ent → Ent
  | .row r => .row r
  | .box cells => .box (frzL x rows cells)

section
variable {w : World} {Im Im' : Nat → Prop} {β : Nat → RowG} {M M' : Nat → Option Ent}
mutual
theorem Rv_frz {x : Nat} {rows : List (List D)} (hi : ∀ b, Im b → Im' b) (ha : AgreeBut x β β M M') (hx : M x = some (.row rows)) (hr : Rc w Im' (.sl rows) ((β x).val rows.length)) : ∀ (d : D) (v : Value), Rv w Im β M d v → Rv w Im' β M' (frz x rows d) v
  | .int .., _, h | .bool _, _, h | .str _, _, h | .nov, _, h | .any, _, h | .nl, _, h | .sl _, _, h | .ep .., _, h => by
    simp only [Rv, frz] at h ⊢
    exact Rc_mono (fun _ _ _ => rfl) hi _ _ h
  | .ptr id i off, v, h => by
    by_cases e : id = x
    · simp [frz, e, Rv, Rc]
    · simp only [Rv, frz, if_neg e] at h ⊢
      obtain ⟨h1, h2, rfl⟩ := h
      obtain ⟨e1, e2, _⟩ := ha id e h1
      exact ⟨e2, h2, rfl⟩
  | .fs id, v, h => by
    by_cases e : id = x
    · subst e
      simp only [Rv] at h
      obtain ⟨n, h1, rfl⟩ := h
      simp only [hx, Option.bind_some, Ent.len, Option.some.injEq] at h1
      subst h1
      simp only [frz, if_true, Rv]
      exact hr
    · simp only [Rv, frz, if_neg e] at h ⊢
      obtain ⟨n, h1, rfl⟩ := h
      obtain ⟨e1, _, e3⟩ := ha id e (bind_len_isSome h1)
      rw [e3]
      exact ⟨n, h1, rfl⟩
  | .agg cs, v, h => by
    simp only [Rv, frz] at h ⊢
    obtain ⟨a, rfl, h⟩ := h
    exact ⟨a, rfl, RvL_frz hi ha hx hr cs a h⟩
  | .tup cs, v, h => by
    simp only [Rv, frz] at h ⊢
    obtain ⟨a, rfl, h⟩ := h
    exact ⟨a, rfl, RvL_frz hi ha hx hr cs a h⟩
theorem RvL_frz {x : Nat} {rows : List (List D)} (hi : ∀ b, Im b → Im' b) (ha : AgreeBut x β β M M') (hx : M x = some (.row rows)) (hr : Rc w Im' (.sl rows) ((β x).val rows.length)) : ∀ (ds : List D) (vs : List Value), RvL w Im β M ds vs → RvL w Im' β M' (frzL x rows ds) vs
  | [], _, h => by simpa [RvL, frzL] using h
  | d :: ds, vs, h => by
    simp only [RvL, frzL] at h ⊢
    obtain ⟨v, r, rfl, h1, h2⟩ := h
    exact ⟨v, r, rfl, Rv_frz hi ha hx hr d v h1, RvL_frz hi ha hx hr ds r h2⟩
end
end

def frzP (x : Nat) (rows : List (List D)) : List (Nat × D) → List (Nat × D)
  | [] => []
  | (i, d) :: l => (i, frz x rows d) :: frzP x rows l
def frzT (x : Nat) (rows : List (List D)) : List (Nat × Ent) → List (Nat × Ent)
  | [] => []
  | (i, e) :: l => (i, e.frz x rows) :: frzT x rows l
theorem frzS_mk (x : Nat) (rows : List (List D)) : ∀ (l : List (Nat × D)), (fun j => frz x rows (mk l j)) = mk (frzP x rows l)
  | [] => by funext j; simp [mk, frzP, frz]
  | (i, d) :: l => by
    funext j
    have := congrFun (frzS_mk x rows l) j
    simp only [mk, frzP] at this ⊢
    split
    · rfl
    · exact this
theorem frzM_mkT (x : Nat) (rows : List (List D)) : ∀ (l : List (Nat × Ent)), (fun j => (mkT l j).map (Ent.frz x rows)) = mkT (frzT x rows l)
  | [] => by funext j; simp [mkT, frzT]
  | (i, e) :: l => by
    funext j
    have := congrFun (frzM_mkT x rows l) j
    simp only [mkT, frzT] at this ⊢
    split
    · rfl
    · exact this

theorem imp_freeze' {n : Nat} {σ : Slots} {M : Tab} (x : Nat) {rows : List (List D)} (hx : M x = some (.row rows)) : Imp n σ M (fun j => frz x rows (σ j)) (fun j => if j = x then none else (M j).map (Ent.frz x rows)) := by
  rintro B0 X I0 w0 a w ⟨Im, β, h⟩
  have hag : AgreeBut x β β M (fun j => if j = x then none else (M j).map (Ent.frz x rows)) := by
    intro id hid hs
    obtain ⟨e, he⟩ := Option.isSome_iff_exists.1 hs
    refine ⟨rfl, by simp [hid, he], ?_⟩
    simp only [hid, if_false, he, Option.map_some, Option.bind_some]
    cases e <;> simp [Ent.frz, Ent.len]
  have hget : ∀ {j e}, (if j = x then none else (M j).map (Ent.frz x rows)) = some e → j ≠ x ∧ ∃ e0, M j = some e0 ∧ e = e0.frz x rows := by
    intro j e hj
    by_cases hjx : j = x
    · simp [hjx] at hj
    · simp only [hjx, if_false, Option.map_eq_some_iff] at hj
      obtain ⟨e0, h1, h2⟩ := hj
      exact ⟨hjx, e0, h1, h2.symm⟩
  have hI : ∀ b, Im b → (Im b ∨ ((β x).nil = false ∧ b = (β x).blk)) := fun b hb => .inl hb
  have hr : Rc w (fun b => Im b ∨ ((β x).nil = false ∧ b = (β x).blk)) (.sl rows) ((β x).val rows.length) := Rc_of_rows hI (fun hn => .inr ⟨hn, rfl⟩) (h.tab x _ hx)
  refine ⟨fun b => Im b ∨ ((β x).nil = false ∧ b = (β x).blk), β, { defers := h.defers, size := h.size, slots := ?_, hi := ?_, im := ?_, tab := ?_, own := ?_, inj := ?_, base := h.base, fr := h.fr, imo := ?_, pin := h.pin, small := h.small }⟩
  · exact fun i hi => Rv_frz hI hag hx hr _ _ (h.slots i hi)
  · intro i hi; rcases h.hi i hi with e | e <;> simp [e, frz]
  · rintro b (hb | ⟨hn, rfl⟩)
    · exact h.im b hb
    · exact h.blk_lt hx hn
  · intro j e hj
    obtain ⟨hjx, e0, he0, rfl⟩ := hget hj
    have hnot : (β j).nil = false → ¬ (Im (β j).blk ∨ ((β x).nil = false ∧ (β j).blk = (β x).blk)) := by
      rintro hn (hb | ⟨hn', he⟩)
      · exact h.not_im he0 hn hb
      · exact hjx (h.inj j x (by simp [he0]) (by simp [hx]) hn hn' he)
    have hok := h.tab j e0 he0
    cases e0 with
    | row r =>
      simp only [EntOk, Ent.frz] at hok ⊢
      refine hok.imp id ?_
      rintro ⟨h1, h2, h3, h4, cur, e, h5, h6, h7, h8⟩
      exact ⟨h1, hnot h1, h3, h4, cur, e, h5, h6, h7, RcRowsL_mono (fun _ _ _ => rfl) hI _ _ _ h8⟩
    | box cells =>
      simp only [EntOk, Ent.frz] at hok ⊢
      obtain ⟨h1, h2, cur, e, h3, h4, h5⟩ := hok
      exact ⟨h1, hnot h1, cur, e, h3, h4, RvL_frz hI hag hx hr _ _ h5⟩
  · intro j e hj hn
    obtain ⟨_, e0, he0, rfl⟩ := hget hj
    exact h.own j e0 he0 hn
  · intro j j' hj hj' hn hn' he
    obtain ⟨e, hje⟩ := Option.isSome_iff_exists.1 hj
    obtain ⟨e', hje'⟩ := Option.isSome_iff_exists.1 hj'
    obtain ⟨_, e0, he0, _⟩ := hget hje
    obtain ⟨_, e1, he1, _⟩ := hget hje'
    exact h.inj j j' (by simp [he0]) (by simp [he1]) hn hn' he
  · rintro b (hb | ⟨hn, rfl⟩)
    · exact h.imo b hb
    · exact .inr (h.own x _ hx hn)

theorem imp_freeze {n : Nat} {l : List (Nat × D)} {m : List (Nat × Ent)} {σ' : Slots} {M' : Tab} (x : Nat) {rows : List (List D)} (hx : mkT m x = some (.row rows)) (h : Imp n (mk (frzP x rows l)) (mkT (del x (frzT x rows m))) σ' M') : Imp n (mk l) (mkT m) σ' M' := by
  refine Imp.trans (imp_freeze' x hx) ?_
  have e1 : (fun j => if j = x then none else (mkT m j).map (Ent.frz x rows)) = mkT (del x (frzT x rows m)) := by
    funext j; rw [mkT_del, ← frzM_mkT]
  rw [e1, frzS_mk]
  exact h

/-- a nil slice in a slot, from now on an own row without cells -/
theorem imp_nil {n : Nat} {l : List (Nat × D)} {m : List (Nat × Ent)} {σ' : Slots} {M' : Tab} (slot x : Nat) (hs : mk l slot = .nl) (hx : mkT m x = none) (h : Imp n (mk ((slot, .fs x) :: l)) (mkT ((x, .row []) :: m)) σ' M') (hlo : x < 900 ∨ 1000 ≤ x := by decide) : Imp n (mk l) (mkT m) σ' M' := by
  refine Imp.trans ?_ h
  clear h
  rintro B0 X I0 w0 a w ⟨Im, β, h⟩
  have hag : Agree β (upd β x ⟨0, 0, 0, true⟩) (mkT m) (mkT ((x, .row []) :: m)) := by
    intro id hs
    have hne : id ≠ x := fun e => by rw [e, hx] at hs; cases hs
    simp [upd, mkT, hne, hs]
  have hget : ∀ {j e}, mkT ((x, Ent.row []) :: m) j = some e → (j = x ∧ e = .row []) ∨ (j ≠ x ∧ mkT m j = some e) := by
    intro j e hj
    simp only [mkT] at hj
    split at hj
    · rename_i e1; cases hj; exact .inl ⟨e1, rfl⟩
    · rename_i e1; exact .inr ⟨e1, hj⟩
  refine ⟨Im, upd β x ⟨0, 0, 0, true⟩, { defers := h.defers, size := h.size, slots := ?_, hi := ?_, im := h.im, tab := ?_, own := ?_, inj := ?_, base := h.base, fr := h.fr, imo := h.imo, pin := fun j g' hj => by rw [upd_ne _ _ (fun e => by rw [e, X.lo x hlo] at hj; cases hj)]; exact h.pin j g' hj, small := h.small }⟩
  · intro i hi
    by_cases e : i = slot
    · subst e
      have := h.slots i hi
      rw [hs] at this
      simp only [Rv, Rc] at this
      simp [mk, Rv, this, mkT, Ent.len, upd, RowG.val]
    · simp only [mk, if_neg e]
      exact Rv_mono (fun _ _ _ => rfl) (fun _ hb => hb) hag _ _ (h.slots i hi)
  · intro i hi
    by_cases e : i = slot
    · subst e
      rcases h.hi i hi with e | e <;> rw [hs] at e <;> cases e
    · simp only [mk, if_neg e]; exact h.hi i hi
  · intro j e hj
    rcases hget hj with ⟨rfl, rfl⟩ | ⟨hne, hj⟩
    · simp [EntOk, upd]
    · rw [upd_ne _ _ hne]
      exact EntOk_mono (fun _ _ _ => rfl) (fun _ hb => hb) hag (fun hn => h.not_im hj hn) (fun _ => rfl) _ (h.tab j e hj)
  · intro j e hj hn
    rcases hget hj with ⟨rfl, rfl⟩ | ⟨hne, hj⟩
    · simp [upd] at hn
    · rw [upd_ne _ _ hne] at hn ⊢
      exact h.own j e hj hn
  · intro j j' hj hj' hn hn' he
    obtain ⟨e, hje⟩ := Option.isSome_iff_exists.1 hj
    obtain ⟨e', hje'⟩ := Option.isSome_iff_exists.1 hj'
    rcases hget hje with ⟨rfl, _⟩ | ⟨hne, hj1⟩
    · simp [upd] at hn
    · rcases hget hje' with ⟨rfl, _⟩ | ⟨hne', hj2⟩
      · simp [upd] at hn'
      · rw [upd_ne _ _ hne] at hn he
        rw [upd_ne _ _ hne'] at hn' he
        exact h.inj j j' (by simp [hj1]) (by simp [hj2]) hn hn' he
end Go.Proofs.Ytgdldeggoflabaa

/- Names for many small laws at once, for the steps of the proofs. -/
namespace Go.Proofs.Ytgdldeggoflabaa
open Go.RowKit

theorem bA : (∀ (l : List (Nat × D)) (i : Nat) (d : D), upd (mk l) i d = mk ((i, d) :: l)) ∧
    (∀ (l : List (Nat × Ent)) (i : Nat) (e : Ent), upd (mkT l) i (some e) = mkT ((i, e) :: del i l)) ∧
    (∀ (j : Nat), mk [] j = D.any) ∧
    (∀ (i : Nat) (d : D) (l : List (Nat × D)) (j : Nat), mk ((i, d) :: l) j = if j = i then d else mk l j) ∧
    (∀ (j : Nat), mkT [] j = none) ∧
    (∀ (i : Nat) (e : Ent) (l : List (Nat × Ent)) (j : Nat), mkT ((i, e) :: l) j = if j = i then some e else mkT l j) ∧
    (∀ (id : Nat) (l : List (Nat × D)), scrS id (mk l) = mk (scrP id l)) ∧
    (∀ (id : Nat) (l : List (Nat × Ent)), scrM id (mkT l) = mkT (scrT id l)) ∧
    (∀ (id : Nat), scrP id [] = []) ∧
    (∀ (id i : Nat) (d : D) (l : List (Nat × D)), scrP id ((i, d) :: l) = (i, scr id d) :: scrP id l) ∧
    (∀ (id : Nat), scrT id [] = []) ∧
    (∀ (id i : Nat) (e : Ent) (l : List (Nat × Ent)), scrT id ((i, e) :: l) = (i, Ent.scr id e) :: scrT id l) ∧
    (∀ (x : Nat), del x ([] : List (Nat × D)) = []) ∧
    (∀ (x i : Nat) (e : D) (l : List (Nat × D)), del x ((i, e) :: l) = if i = x then del x l else (i, e) :: del x l) ∧
    (∀ (x : Nat), del x ([] : List (Nat × Ent)) = []) ∧
    (∀ (x i : Nat) (e : Ent) (l : List (Nat × Ent)), del x ((i, e) :: l) = if i = x then del x l else (i, e) :: del x l) :=
  ⟨upd_mk, upd_mkT, mk_nil, mk_cons, mkT_nil, mkT_cons, scrS_mk, scrM_mkT, scrP_nil, scrP_cons, scrT_nil, scrT_cons, del_nil, del_cons, del_nil, del_cons⟩
theorem bB : (∀ {α : Type} {a : α} {l : List α} {f : α → Bool}, (a :: l).all f = (f a && l.all f)) ∧
    (∀ {α : Type} {f : α → Bool}, [].all f = true) ∧
    (∀ (b : Bool), (b && true) = b) ∧ (∀ (b : Bool), (true && b) = b) ∧ (∀ (b : Bool), (b && b) = b) ∧
    (∀ {α : Type} {a : α} {as : List α}, (a :: as).length = as.length + 1) ∧ (∀ {α : Type}, ([] : List α).length = 0) ∧
    (∀ {α : Type} {a : α} {as : List α} {i : Nat}, List.take (i + 1) (a :: as) = a :: List.take i as) ∧
    (∀ {α : Type} {l : List α}, List.take 0 l = []) ∧
    (∀ {α : Type} {a : α} {l : List α} {i : Nat}, List.drop (i + 1) (a :: l) = List.drop i l) ∧
    (∀ {α : Type} {l : List α}, List.drop 0 l = l) ∧ (∀ {α : Type} {i : Nat}, List.take i ([] : List α) = []) ∧ (∀ {α : Type} {i : Nat}, List.drop i ([] : List α) = []) ∧
    (∀ {α : Type} (l : List α), [] ++ l = l) ∧ (∀ {α : Type} {a : α} {l m : List α}, (a :: l) ++ m = a :: (l ++ m)) ∧ (∀ {α : Type} (l : List α), l ++ [] = l) ∧
    (∀ {α : Type} {x : α} {l : List α} {d : α}, (x :: l).getD 0 d = x) ∧ (∀ {α : Type} {x : α} {l : List α} {n : Nat} {d : α}, (x :: l).getD (n + 1) d = l.getD n d) ∧
    (∀ {α β : Type} {f : α → β} {a : α} {l : List α}, (a :: l).map f = f a :: l.map f) ∧ (∀ {α β : Type} {f : α → β}, [].map f = []) ∧
    (∀ {α : Type} {a : α} {l : List α}, (a :: l)[0]? = some a) ∧ (∀ {α : Type} {a : α} {i : Nat} {l : List α}, (a :: l)[i + 1]? = l[i]?) ∧
    (∀ {α β : Type} {l : List α} (f : α → β), (l.map f).length = l.length) ∧
    (∀ (n : Nat), Int.toNat n = n) ∧ (∀ (n : Nat), (0 : Int) ≤ n) ∧
    (∀ {α : Type} (a b : α), (some a = some b) = (a = b)) ∧ (∀ (a b : List (List D)), (Ent.row a = Ent.row b) = (a = b)) :=
  ⟨List.all_cons, List.all_nil, Bool.and_true, Bool.true_and, Bool.and_self, List.length_cons, List.length_nil, List.take_succ_cons, List.take_zero, List.drop_succ_cons, List.drop_zero, List.take_nil, List.drop_nil, List.nil_append, List.cons_append, List.append_nil, List.getD_cons_zero, List.getD_cons_succ, List.map_cons, List.map_nil, List.getElem?_cons_zero, List.getElem?_cons_succ, List.length_map, Int.toNat_natCast, Int.natCast_nonneg, fun a b => by simp, fun a b => by simp⟩
end Go.Proofs.Ytgdldeggoflabaa
