/- Regions that draw their order, second part. -/
import Derived.Test.YtelolknpcmjdeaaMk
namespace Go.Proofs.Ytelolknpcmjdeaa
open Go.RowKit

theorem hv_ex {P : Program} {M : Tab} {ρ : Operand → D} {K : D → Prop} {op : Op} (h : hv P M ρ K op) : ∃ d, hv P M ρ (· = d) op ∧ K d := by
  unfold hv at h
  split at h
  · rename_i c
    split at h
    · rename_i f hc
      obtain ⟨r, h1, h2⟩ := h
      exact ⟨r, by simp only [hv, hc]; exact ⟨r, h1, rfl⟩, h2⟩
    · rename_i hc
      obtain ⟨d, h1, h2⟩ := qv_ex h
      refine ⟨d, ?_, h2⟩
      unfold hv
      simp only
      exact h1
  · rename_i t len parts
    split at h
    · rename_i hd
      obtain ⟨h1, h2, h3, h4, h5⟩ := h
      obtain ⟨rs, h6, h7⟩ := partsQ_ex _ _ _ h5
      refine ⟨.sl rs, ?_, h7⟩
      simp only [hv, hd]
      exact ⟨h1, h2, h3, h4, partsQ_ex.partsQ_mono (fun x hx => by rw [hx]) _ _ h6⟩
    · exact h.elim
  · rename_i op' hc hb
    obtain ⟨d, h1, h2⟩ := qv_ex h
    refine ⟨d, ?_, h2⟩
    unfold hv
    split
    · rename_i c; exact absurd rfl (hc c)
    · rename_i t len parts; exact absurd rfl (hb t len parts)
    · exact h1

theorem map_congr {ρ ρ' : Operand → D} {xs : List Operand} (h : ∀ x ∈ xs, ρ x = ρ' x) : xs.map ρ = xs.map ρ' := List.map_congr_left h

theorem qv_congr {P : Program} {M : Tab} {ρ ρ' : Operand → D} {K : D → Prop} (op : Op) (h : ∀ x ∈ op.operands, ρ x = ρ' x) : qv P M ρ K op → qv P M ρ' K op := by
  intro hq
  have hb : ∀ {z : Option Operand} {dflt : Nat} {KK : Nat → Prop}, (∀ x ∈ z.toArray, ρ x = ρ' x) → boundQ ρ z dflt KK = boundQ ρ' z dflt KK := by
    intro z dflt KK hz
    unfold boundQ
    cases z with
    | none => rfl
    | some o => simp only; rw [hz o (by simp)]
  unfold qv at hq ⊢
  split at hq
  case h_1 x => rw [← h x (by simp [Op.operands])]; exact hq
  case h_2 x => rw [← h x (by simp [Op.operands])]; exact hq
  case h_3 c x y => rw [← h x (by simp [Op.operands]), ← h y (by simp [Op.operands]), ← h c (by simp [Op.operands])]; exact hq
  case h_4 t x => rw [← h x (by simp [Op.operands])]; exact hq
  case h_5 t x => rw [← h x (by simp [Op.operands])]; exact hq
  case h_6 op t x y t' => rw [← h x (by simp [Op.operands]), ← h y (by simp [Op.operands])]; exact hq
  case h_7 s d x => rw [← h x (by simp [Op.operands])]; exact hq
  case h_8 t x => rw [← h x (by simp [Op.operands])]; exact hq
  case h_9 s x f => rw [← h x (by simp [Op.operands])]; exact hq
  case h_10 t x i => rw [← h x (by simp [Op.operands]), ← h i (by simp [Op.operands])]; exact hq
  case h_11 t x i => rw [← h x (by simp [Op.operands]), ← h i (by simp [Op.operands])]; exact hq
  case h_12 x i => rw [← h x (by simp [Op.operands])]; exact hq
  case h_13 t x lo hi =>
    rw [← h x (by simp [Op.operands])]
    simp only [← hb (z := lo) (fun y hy => h y (by simp [Op.operands] at hy ⊢; simp [hy])), ← hb (z := hi) (fun y hy => h y (by simp [Op.operands] at hy ⊢; simp [hy]))]
    exact hq
  case h_14 t parts =>
    have : (parts.toList.map fun p => (p.1, ρ p.2)) = parts.toList.map fun p => (p.1, ρ' p.2) := by
      apply List.map_congr_left
      intro p hp
      rw [h p.2 (by simp only [Op.operands]; exact Array.mem_toList_iff.1 (by simpa using ⟨p.1, by simpa using hp⟩))]
    rw [← this]; exact hq
  case h_15 args ts =>
    revert hq
    split
    · rename_i x t h1 h2
      rw [← h x (by simp only [Op.operands, Call.operands]; simp [← Array.mem_toList_iff, h1])]
      exact fun hq => hq
    · exact fun hq => hq
  case h_16 args ts =>
    revert hq
    split
    · rename_i x y h1
      rw [← h x (by simp only [Op.operands, Call.operands]; simp [← Array.mem_toList_iff, h1]), ← h y (by simp only [Op.operands, Call.operands]; simp [← Array.mem_toList_iff, h1])]
      exact fun hq => hq
    · exact fun hq => hq
  case h_17 args ts =>
    revert hq
    split
    · rename_i x y h1
      rw [← h x (by simp only [Op.operands, Call.operands]; simp [← Array.mem_toList_iff, h1]), ← h y (by simp only [Op.operands, Call.operands]; simp [← Array.mem_toList_iff, h1])]
      exact fun hq => hq
    · exact fun hq => hq
  case h_18 => exact hq.elim

theorem hv_congr {P : Program} {M : Tab} {ρ ρ' : Operand → D} {K : D → Prop} (op : Op) (h : ∀ x ∈ op.operands, ρ x = ρ' x) (hq : hv P M ρ K op) : hv P M ρ' K op := by
  unfold hv at hq ⊢
  split at hq
  · rename_i c
    have hm : c.args.toList.map ρ = c.args.toList.map ρ' := List.map_congr_left fun x hx => h x (by
      simp only [Op.operands, Call.operands, Array.mem_append]
      exact .inr (Array.mem_toList_iff.1 hx))
    (try simp only)
    split at hq
    · rename_i f hc; (try simp only [hc]); rw [← hm]; exact hq
    · rename_i hc
      have := qv_congr (.call c) h hq
      first | exact this | (split; · (rename_i f hf; exact absurd hf (hc f)); · exact this)
  · rename_i t len parts
    have : (parts.toList.map fun p => (p.1, ρ p.2)) = parts.toList.map fun p => (p.1, ρ' p.2) := by
      apply List.map_congr_left
      intro p hp
      rw [h p.2 (by simp only [Op.operands]; exact Array.mem_toList_iff.1 (by simpa using ⟨p.1, by simpa using hp⟩))]
    (try simp only)
    rw [← this]; exact hq
  · rename_i op' hc hb
    exact qv_congr _ h hq

mutual
theorem ren_noFs (dst : Nat) : ∀ (d : D), noFs d = true → ren dst d = d
  | .int .., _ | .bool _, _ | .str _, _ | .nov, _ | .any, _ | .nl, _ | .sl _, _ | .ep .., _ | .ptr .., _ => by simp [ren]
  | .fs _, h => by simp [noFs] at h
  | .agg cs, h => by simp only [noFs] at h; simp only [ren, renL_noFs dst cs h]
  | .tup cs, h => by simp only [noFs] at h; simp only [ren, renL_noFs dst cs h]
theorem renL_noFs (dst : Nat) : ∀ (ds : List D), noFsL ds = true → renL dst ds = ds
  | [], _ => rfl
  | d :: ds, h => by
    simp only [noFsL, Bool.and_eq_true] at h
    simp only [renL, ren_noFs dst d h.1, renL_noFs dst ds h.2]
end

section
variable {B0 : Nat} {X I0 : Nat → Prop} {w0 : World} {n : Nat} {Im : Nat → Prop} {β : Nat → RowG} {σ : Nat → D} {M : Nat → Option Ent} {a : Act} {w : World} {P : Program}

theorem hv_sound (h : StG B0 X I0 w0 n Im β σ M a w) {o : Oper} {r : D} (hq : hv P M (ev σ) (· = r) o.op) (K' : Act → World → Prop) (Q : Exit → Act → World → Prop)
    (hk : ∀ v w' Im' β', StG B0 X I0 w0 n Im' β' σ M a w' → Rv w' Im' β' M r v → K' (a.put o.dst v) w') : o.wp P a w K' Q := by
  obtain ⟨dst, op, type, pos, after, guard⟩ := o
  simp only at hq
  have quiet : qv P M (ev σ) (· = r) op → (Oper.mk dst op type pos after guard).wp P a w K' Q := by
    intro hq
    obtain ⟨v, d, h1, h2, rfl⟩ := qv_sound (o := ⟨dst, op, type, pos, after, guard⟩) h hq
    unfold Oper.wp
    rw [h1]
    exact hk v w Im β h h2
  unfold hv at hq
  split at hq
  · rename_i c
    obtain ⟨callee, args, ts⟩ := c
    simp only at hq
    split at hq
    · rename_i f
      obtain ⟨r', ⟨h1, h2, h3, h4⟩, rfl⟩ := hq
      have hc := call_sound h (RvL_evs h args.toList) h1 h2 (h4.imp id (fun h5 => ⟨h5, by simp⟩)) 0
      have hcl := h1.1
      have hrun : (execOp a.eval ⟨dst, .call ⟨.value (.func f), args, ts⟩, type, pos, after, guard⟩).run P w = .ok (.enter f (args.map a.eval)) w := by
        unfold callable at hcl
        cases hf : P.funcs[f]? with
        | none => rw [hf] at hcl; cases hcl
        | some fn =>
          rw [hf] at hcl
          simp only [Bool.and_eq_true, bne_iff_ne, ne_eq] at hcl
          obtain ⟨hn, hb⟩ := hcl
          obtain ⟨b, hb⟩ := Option.isSome_iff_exists.1 hb
          simp [execOp, resolve, Act.eval, Deferred.ofValue, invoke, callFunc, hf, hn, hb]
      unfold Oper.wp
      rw [hrun]
      simp only [Oper.upon]
      have e1 : (args.toList.map a.eval).toArray = args.map a.eval := by
        apply Array.toList_inj.1; simp
      rw [e1] at hc
      refine hc.mono ?_
      rintro e w' ⟨v, Im', β', rfl, h5, h6⟩
      rw [ren_noFs 0 r' h3] at h6
      exact hk v w' Im' β' h5 h6
    · exact quiet hq
  · rename_i t len parts
    split at hq
    · rename_i e es eb ez htd
      obtain ⟨h1, h2, rfl, h4, h5⟩ := hq
      obtain ⟨hu, hes, heb, hez⟩ := tI_slice htd
      have hes0 := h1
      rw [hes] at hes0
      obtain ⟨i, hi, hisz⟩ := info_of_size hes0
      have hsi : es = i.size := by rw [hes, hisz]
      obtain ⟨z, hz⟩ : ∃ z, i.zero = some z := by
        cases hz : i.zero with
        | none => simp [zerosOf, hi, hz] at hez; subst hez; simp at h2; omega
        | some z => exact ⟨z, rfl⟩
      have main : ∀ (rest : List Value), rest.length = parts.toList.length * es →
          (∀ cs : List Value, Instr.fill (fun i => some (i * es, es)) rest.toArray (parts.toList.map fun p => (p.1, a.eval p.2)) = some cs.toArray → (Instr.buildSlice t parts.size (parts.map fun (i, x) => (i, a.eval x))).run P w = .ok (.slice (some ⟨w.heap.size, 0, none⟩) parts.size parts.size) (w.alloc (.cells cs.toArray e))) →
          (Oper.mk dst (.buildSlice t parts.size parts) type pos after guard).wp P a w K' Q := by
        intro rest hrest hrun
        obtain ⟨rows, cs, g1, g2, g3, g4, g5, g6⟩ := parts_sound h parts.toList 0 _ [] rest h5 (by simp) hrest
        simp only [List.nil_append] at g1
        have hps : rows.length = parts.size := by rw [g4]; simp
        subst g6
        have hbel : Below w.heap.size w (w.alloc (.cells cs.toArray e)) := (Below.refl _ _).alloc (Nat.le_refl _) _
        have hst := h.grow hbel (fun b => Im b ∨ b = w.heap.size) (fun _ hb => .inl hb) (fun b hb => hb.imp id (fun hb => by omega)) (fun b hb => by
          rcases hb with hb | hb
          · have := h.im b hb; simp; omega
          · subst hb; simp)
        have hcc : ∀ b o, Im b → (w.alloc (.cells cs.toArray e)).cell? ⟨b, o, none⟩ = w.cell? ⟨b, o, none⟩ := fun b o hb => World.cell?_of_block (w := w) (heap_alloc_below w _ b (h.im b hb))
        have hent : EntOk (w.alloc (.cells cs.toArray e)) Im β M ⟨w.heap.size, rows.length, es, false⟩ (.row rows) := by
          simp only [EntOk]
          exact .inr ⟨trivial, fun hi => Nat.lt_irrefl _ (h.im _ hi), Nat.le_refl _, ⟨by rw [hps]; have : parts.size * 1 ≤ parts.size * es := Nat.mul_le_mul_left _ (by omega); unfold maxLen; omega, fun hh => by simp [hh]⟩, cs.toArray, e, heap_alloc_new w _, by simpa using g3, by simpa using g5, by simpa using RcRowsL_mono hcc (fun _ h => h) _ _ _ g2⟩
        have hrc := Rc_of_rows (Im' := fun b => Im b ∨ b = w.heap.size) (fun _ hb => .inl hb) (fun _ => .inr rfl) hent
        have hv' : Rv (w.alloc (.cells cs.toArray e)) (fun b => Im b ∨ b = w.heap.size) β M (.sl rows) (.slice (some ⟨w.heap.size, 0, none⟩) parts.size parts.size) := by
          simp only [RowG.val] at hrc
          simp only [Rv]
          simpa [hps] using hrc
        unfold Oper.wp
        simp only [execOp, Sem.run_bind, hrun cs g1, Result.andThen_ok]
        exact hk _ _ _ _ hst hv'
      by_cases h0 : parts.size * i.size = 0
      · have hp0 : parts.size = 0 := by
          rcases Nat.mul_eq_zero.1 h0 with h0 | h0
          · exact h0
          · omega
        refine main [] (by simp [hp0]) ?_
        intro cs hcs
        have hparts : parts = #[] := Array.eq_empty_of_size_eq_zero hp0
        subst hparts
        simp [Instr.fill] at hcs
        subst hcs
        simp [Instr.buildSlice, run_underlying hu, Go.sizeOf, typeInfo, hi, Instr.fill, newRow, Array.range_zero']
      · refine main ((Array.range (parts.size * i.size)).map (z.cells[· % z.cells.size]!)).toList (by simp [hsi]) ?_
        intro cs hcs
        rw [Array.toArray_toList] at hcs
        refine run_buildSlice w t e parts.size _ cs.toArray i z hu hi hz ?_ h0 ?_
        · rw [← hsi]; omega
        · rw [← hsi]
          simpa [hsi] using hcs
    · exact hq.elim
  · exact quiet hq
end

/-! ### whatever order -/
def putA (σ : Slots) (dst : Option Tmp) (d : D) : Slots := match dst with | some t => upd σ t d | none => σ

/-- what an operation's guard says of it, as far as it is known -/
def wantA (ops : Array Oper) (σ : Slots) (o : Oper) : Option Bool :=
  match o.guard with
  | none => some true
  | some (j, want) =>
    match (ops[j]?).bind (·.dst) with
    | some d => match σ d with
      | .bool b => some (b == want)
      | .nov => some false
      | _ => none
    | none => some false
/-- in the state σ the operation leaves d -/
def YA (P : Program) (n : Nat) (M : Tab) (ops : Array Oper) (o : Oper) (d : D) (σ : Slots) : Prop :=
  (∀ t, o.dst = some t → t < n) ∧ ((wantA ops σ o = some true ∧ hv P M (ev σ) (· = d) o.op) ∨ (wantA ops σ o = some false ∧ d = .nov))
def hOp (P : Program) (n : Nat) (M : Tab) (ops : Array Oper) (i : Nat) (K : Slots → Prop) (σ : Slots) : Prop :=
  match ops[i]? with
  | none => K σ
  | some o => ∃ d, YA P n M ops o d σ ∧ K (putA σ o.dst d)
def hAny (P : Program) (n : Nat) (M : Tab) (md : Region.Mode) (ops : Array Oper) (Q : Slots → Prop) : Nat → Array Bool → Slots → Prop
  | 0, listed, σ => Region.ready md ops listed = [] ∧ Q σ
  | fuel + 1, listed, σ =>
    (Region.ready md ops listed = [] → Q σ) ∧
    ∀ i ∈ Region.ready md ops listed, hOp P n M ops i (hAny P n M md ops Q fuel (listed.setIfInBounds i true)) σ

section
variable {B0 : Nat} {X I0 : Nat → Prop} {w0 : World} {n : Nat} {M : Tab} {P : Program} {ops : Array Oper} {md : Region.Mode}

theorem hOp_mono {i : Nat} {σ : Slots} {K K' : Slots → Prop} (h : ∀ σ, K σ → K' σ) (hh : hOp P n M ops i K σ) : hOp P n M ops i K' σ := by
  unfold hOp at *
  split
  · rename_i ho; simp only [ho] at hh; exact h _ hh
  · rename_i o ho; simp only [ho] at hh; obtain ⟨d, h1, h2⟩ := hh; exact ⟨d, h1, h _ h2⟩

theorem wpOp_of_hOp {i : Nat} {σ : Slots} {a : Act} {w : World} {K : Slots → Prop} {K' : Act → World → Prop} {Q' : Exit → Act → World → Prop} (hs : St B0 X I0 w0 n σ M a w) (hk : ∀ σ a w, St B0 X I0 w0 n σ M a w → K σ → K' a w) (hh : hOp P n M ops i K σ) : wpOp P ops Q' i K' a w := by
  obtain ⟨Im, β, h⟩ := hs
  unfold hOp at hh
  unfold wpOp
  split
  · rename_i ho; simp only [ho] at hh; exact hk _ _ _ ⟨Im, β, h⟩ hh
  · rename_i o ho
    simp only [ho] at hh
    obtain ⟨d, ⟨hlt, hy⟩, hK⟩ := hh
    have hputs : ∀ {Im' β' v w'}, StG B0 X I0 w0 n Im' β' σ M a w' → Rv w' Im' β' M d v → St B0 X I0 w0 n (putA σ o.dst d) M (a.put o.dst v) w' := by
      intro Im' β' v w' h1 h2
      cases hd : o.dst with
      | none => exact ⟨Im', β', by simpa [putA, Act.put] using h1⟩
      | some t => exact ⟨Im', β', h1.put (hlt t hd) h2⟩
    have hwant : ∀ b, wantA ops σ o = some b → Region.wanted o (yielded ops a.tmps) = b := by
      intro b hb
      unfold wantA at hb
      unfold Region.wanted
      split at hb
      · rename_i hg; simp only [hg]; simpa using hb
      · rename_i j want hg
        simp only [hg]
        split at hb
        · rename_i dj hdj
          obtain ⟨y1, y2⟩ := yielded_of h hdj
          split at hb
          · rename_i bb hbb; rw [y1 bb hbb]; simp at hb; simpa using hb
          · rename_i hbb; rw [y2 hbb]; simp at hb; simpa using hb
          · cases hb
        · rename_i hdj; simp [yielded, hdj] at hb ⊢; simpa using hb
    rcases hy with ⟨hw, hq⟩ | ⟨hw, rfl⟩
    · rw [hwant true hw]
      simp only [if_true]
      exact .inl (hv_sound h hq K' Q' fun v w' Im' β' h1 h2 => hk _ _ _ (hputs h1 h2) hK)
    · rw [hwant false hw]
      simp only [Bool.false_eq_true, if_false]
      exact hk _ _ _ (hputs h (by simp [Rv, Rc])) hK

theorem wpAny_of_hAny {Q : Slots → Prop} {Q' : Exit → Act → World → Prop} (hQ : ∀ σ a w, St B0 X I0 w0 n σ M a w → Q σ → Q' .normal a w) : ∀ (fuel : Nat) (listed : Array Bool) (σ : Slots) (a : Act) (w : World), St B0 X I0 w0 n σ M a w →
    hAny P n M md ops Q fuel listed σ → wpAny P md ops Q' fuel listed a w
  | 0, _, _, _, _, hs, h => ⟨h.1, hQ _ _ _ hs h.2⟩
  | fuel + 1, _, _, _, _, hs, h => ⟨fun h0 => hQ _ _ _ hs (h.1 h0), fun i hi => wpOp_of_hOp hs (fun σ' a' w' hs' => wpAny_of_hAny hQ fuel _ σ' a' w' hs') (h.2 i hi)⟩

theorem putA_comm (σ : Slots) {x y : Option Tmp} (d e : D) (h : ∀ t, x = some t → y ≠ some t) : putA (putA σ x d) y e = putA (putA σ y e) x d := by
  cases x with
  | none => rfl
  | some s =>
    cases y with
    | none => rfl
    | some t =>
      have hne : s ≠ t := fun he => h s rfl (he ▸ rfl)
      funext j
      simp only [putA, upd]
      by_cases e1 : j = t <;> by_cases e2 : j = s <;> simp_all

theorem ev_putA {σ : Slots} {dst : Option Tmp} {d : D} {x : Operand} (h : ∀ t, dst = some t → x ≠ .tmp t) : ev (putA σ dst d) x = ev σ x := by
  cases dst with
  | none => rfl
  | some t =>
    cases x with
    | tmp s => simp only [putA, ev]; rw [upd_ne _ _ (fun e => h t rfl (by rw [e]))]
    | _ => rfl

theorem wantA_put {o : Oper} {σ : Slots} {dst : Option Tmp} {d : D} (h : ∀ t, dst = some t → t ∉ o.looksAt ops) : wantA ops (putA σ dst d) o = wantA ops σ o := by
  cases dst with
  | none => rfl
  | some t =>
    unfold wantA
    cases hg : o.guard with
    | none => rfl
    | some g =>
      obtain ⟨j, want⟩ := g
      simp only
      cases hd : (ops[j]?).bind (·.dst) with
      | none => rfl
      | some dj =>
        have hne : dj ≠ t := fun e => h t rfl (by simp [Oper.looksAt, hg, hd, e])
        simp only [putA, upd_ne _ _ hne]

theorem hv_put {o : Oper} {σ : Slots} {dst : Option Tmp} {d : D} {K : D → Prop} (h : ∀ t, dst = some t → t ∉ o.looksAt ops) : hv P M (ev (putA σ dst d)) K o.op ↔ hv P M (ev σ) K o.op := by
  have key : ∀ x ∈ o.op.operands, ev (putA σ dst d) x = ev σ x := fun x hx => ev_putA fun t ht he => h t ht (by
    simp only [Oper.looksAt, List.mem_append, List.mem_filterMap]
    exact .inl ⟨x, Array.mem_toList_iff.2 hx, by simp [he]⟩)
  exact ⟨hv_congr _ key, hv_congr _ fun x hx => (key x hx).symm⟩

theorem YA_put {o : Oper} {σ : Slots} {dst : Option Tmp} {d e : D} (h : ∀ t, dst = some t → t ∉ o.looksAt ops) : YA P n M ops o e (putA σ dst d) ↔ YA P n M ops o e σ := by
  unfold YA
  rw [wantA_put h, hv_put h]

theorem hOp_put {j : Nat} {oi oj : Oper} {d : D} (hj : ops[j]? = some oj) (hap : oi.apart ops oj = true) {K : Slots → Prop} {σ : Slots}
    (hy : YA P n M ops oi d σ) (h : hOp P n M ops j K (putA σ oi.dst d)) : hOp P n M ops j (fun σ' => YA P n M ops oi d σ' ∧ K (putA σ' oi.dst d)) σ := by
  obtain ⟨h1, h2, h3⟩ := Oper.apart_spec hap
  unfold hOp at *
  simp only [hj] at *
  obtain ⟨e, g1, g2⟩ := h
  exact ⟨e, (YA_put h1).1 g1, (YA_put h3).2 hy, by rw [← putA_comm σ d e h2]; exact g2⟩

theorem hAny_first {Q : Slots → Prop} {i : Nat} {oi : Oper} {d : D} (hi : ops[i]? = some oi) :
    ∀ (fuel : Nat) (listed : Array Bool) (σ : Slots),
      (∀ j oj, ops[j]? = some oj → j ≠ i → listed.getD j true = false → (∀ e ∈ oj.after, Region.binds md e = true → e.on ≠ i) → oi.apart ops oj = true) →
      i ∈ Region.ready md ops listed → YA P n M ops oi d σ →
      hAny P n M md ops Q fuel (listed.setIfInBounds i true) (putA σ oi.dst d) → hAny P n M md ops Q (fuel + 1) listed σ := by
  have now : ∀ {σ : Slots} {K : Slots → Prop}, YA P n M ops oi d σ → K (putA σ oi.dst d) → hOp P n M ops i K σ := by
    intro σ K hy hk
    unfold hOp
    simp only [hi]
    exact ⟨d, hy, hk⟩
  intro fuel
  induction fuel with
  | zero =>
    intro listed σ _ hr hy H
    refine ⟨fun h => (by rw [h] at hr; cases hr), fun j hj => ?_⟩
    by_cases hji : j = i
    · subst hji; exact now hy H
    · have := ready_mono hj hji
      rw [H.1] at this
      cases this
  | succ fuel ih =>
    intro listed σ hfree hr hy H
    refine ⟨fun h => (by rw [h] at hr; cases hr), fun j hj => ?_⟩
    by_cases hji : j = i
    · subst hji; exact now hy H
    · have h1 := H.2 j (ready_mono hj hji)
      obtain ⟨hjun, oj, hoj, hall⟩ := mem_ready.1 hj
      have hnot : ∀ e ∈ oj.after, Region.binds md e = true → e.on ≠ i := fun e he hb heq => by
        have h1 := hall e he hb
        have h0 := (mem_ready.1 hr).1
        rw [heq] at h1
        rcases Nat.lt_or_ge i listed.size with h' | h'
        · simp [h'] at h0 h1; rw [h0] at h1; cases h1
        · simp [Array.getElem?_eq_none h'] at h1
      have h2 := hOp_put hoj (hfree j oj hoj hji hjun hnot) hy h1
      have hfree' : ∀ k ok, ops[k]? = some ok → k ≠ i → (listed.setIfInBounds j true).getD k true = false →
          (∀ e ∈ ok.after, Region.binds md e = true → e.on ≠ i) → oi.apart ops ok = true := fun k ok hk hki hun hno => by
        refine hfree k ok hk hki ?_ hno
        by_cases hjk : j = k
        · subst hjk; exact hjun
        · rw [getD_set_ne true hjk] at hun; exact hun
      refine hOp_mono (fun σ' h3 => ih (listed.setIfInBounds j true) σ' hfree' (ready_mono hr (Ne.symm hji)) h3.1 ?_) h2
      rw [Array.setIfInBounds_comm _ _ hji]
      exact h3.2

/-- the walk in the text's order -/
def hOps (P : Program) (n : Nat) (M : Tab) (ops : Array Oper) : List Oper → Slots → (Slots → Prop) → Prop
  | [], σ, K => K σ
  | o :: rest, σ, K => guardQ ops σ o.guard ((∀ t, o.dst = some t → t < n) ∧ hv P M (ev σ) (fun d => hOps P n M ops rest (putA σ o.dst d) K) o.op) (skipQ n o.dst σ fun σ' => hOps P n M ops rest σ' K)

theorem YA_of_hOps {o : Oper} {rest : List Oper} {σ : Slots} {K : Slots → Prop} (h : hOps P n M ops (o :: rest) σ K) : ∃ d, YA P n M ops o d σ ∧ hOps P n M ops rest (putA σ o.dst d) K := by
  have hskip : ∀ {K' : Slots → Prop}, skipQ n o.dst σ K' → (∀ t, o.dst = some t → t < n) ∧ K' (putA σ o.dst .nov) := by
    intro K' hs
    unfold skipQ at hs
    cases hd : o.dst with
    | none => rw [hd] at hs; exact ⟨by simp, hs⟩
    | some t => rw [hd] at hs; exact ⟨by simpa using hs.1, hs.2⟩
  simp only [hOps, guardQ] at h
  unfold YA wantA
  cases hg : o.guard with
  | none =>
    simp only [hg] at h
    obtain ⟨h1, h2⟩ := h
    obtain ⟨d, h3, h4⟩ := hv_ex h2
    exact ⟨d, ⟨h1, .inl ⟨rfl, h3⟩⟩, h4⟩
  | some g =>
    obtain ⟨j, want⟩ := g
    simp only [hg] at h
    cases hd : (ops[j]?).bind (·.dst) with
    | none =>
      simp only [hd] at h
      obtain ⟨h1, h2⟩ := hskip h
      exact ⟨.nov, ⟨h1, .inr (by simp [hd])⟩, h2⟩
    | some dj =>
      simp only [hd, grdQ] at h
      have yes : ((∀ t, o.dst = some t → t < n) ∧ hv P M (ev σ) (fun d => hOps P n M ops rest (putA σ o.dst d) K) o.op) → ∀ b, σ dj = .bool b → b = want → ∃ d, ((∀ t, o.dst = some t → t < n) ∧ (((match σ dj with | .bool b => some (b == want) | .nov => some false | _ => none) = some true ∧ hv P M (ev σ) (· = d) o.op) ∨ ((match σ dj with | .bool b => some (b == want) | .nov => some false | _ => none) = some false ∧ d = .nov))) ∧ hOps P n M ops rest (putA σ o.dst d) K := by
        rintro ⟨h1, h2⟩ b hb rfl
        obtain ⟨d, h3, h4⟩ := hv_ex h2
        exact ⟨d, ⟨h1, .inl ⟨by simp [hb], h3⟩⟩, h4⟩
      cases hs : σ dj with
      | bool b =>
        simp only [hs] at h
        cases b <;> cases want <;> simp only at h
        · obtain ⟨d, h1, h2⟩ := yes (h.1 (by simp)) false hs rfl
          exact ⟨d, by simpa [hd, hs] using h1, h2⟩
        · obtain ⟨h1, h2⟩ := hskip (h.2 (by simp))
          exact ⟨.nov, ⟨h1, .inr (by simp [hd, hs])⟩, h2⟩
        · obtain ⟨h1, h2⟩ := hskip (h.2 (by simp))
          exact ⟨.nov, ⟨h1, .inr (by simp [hd, hs])⟩, h2⟩
        · obtain ⟨d, h1, h2⟩ := yes (h.1 (by simp)) true hs rfl
          exact ⟨d, by simpa [hd, hs] using h1, h2⟩
      | nov =>
        simp only [hs] at h
        obtain ⟨h1, h2⟩ := hskip h
        exact ⟨.nov, ⟨h1, .inr (by simp [hd, hs])⟩, h2⟩
      | _ => simp only [hs] at h

theorem hAny_lex {Q : Slots → Prop} : ∀ (l : List Oper) (k : Nat) (listed : Array Bool) (σ : Slots), (∀ j, l[j]? = ops[k + j]?) →
    Region.lexFrom md ops l.length k listed = true → hOps P n M ops l σ Q → hAny P n M md ops Q l.length listed σ
  | [], _, _, _, _, hB, h => ⟨by simpa [Region.lexFrom] using hB, h⟩
  | o :: l, k, listed, σ, hl, hB, h => by
    have h0 : ops[k]? = some o := by simpa using (hl 0).symm
    simp only [List.length_cons, Region.lexFrom, Bool.and_eq_true] at hB
    obtain ⟨⟨hr, hf⟩, hB'⟩ := hB
    obtain ⟨d, hy, hK⟩ := YA_of_hOps h
    exact hAny_first h0 l.length listed σ (Region.free_spec h0 hf) (by simpa using hr) hy
      (hAny_lex l (k + 1) _ _ (fun j => by have := hl (j + 1); simpa [Nat.add_assoc, Nat.add_comm 1 j] using this) hB' hK)

/-- A REGION THAT DRAWS ITS ORDER. -/
theorem t_draw {id : Nat} {l : List Oper} {Q : Ex → Slots → Tab → Prop} {σ : Slots} (hm : P.follows .mixedOrders = true) (hB : Region.lexB .any l.toArray = true)
    (h : ∀ K : Slots → Prop, (∀ σ, Q .normal σ M → K σ) → hOps P n M l.toArray l σ K) : Tr P n (.region id l.toArray true) Q σ M := by
  intro B0 X I0 w0 a w hs
  simp only [Region.lexB, Bool.and_eq_true] at hB
  obtain ⟨Im, β, hg⟩ := hs
  refine wp_region_any hm (wpAny_of_hAny (Q := fun σ => Q .normal σ M) (fun σ' a' w' h1 h2 => ⟨.normal, σ', M, h1, h2, rfl⟩) _ _ σ a _ ⟨Im, β, hg.drew⟩ ?_)
  have := hAny_lex (P := P) (n := n) (M := M) (md := .any) l 0 (Array.replicate l.toArray.size false) σ (by simp) (by simpa using hB.2) (h _ (fun _ h => h))
  simpa using this
end
end Go.Proofs.Ytelolknpcmjdeaa
