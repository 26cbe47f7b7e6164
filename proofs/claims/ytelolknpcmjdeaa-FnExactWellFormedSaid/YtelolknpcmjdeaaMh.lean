/- Regions in the text's order, control, and whole functions. -/
import Derived.Test.YtelolknpcmjdeaaMg
namespace Go.Proofs.Ytelolknpcmjdeaa
open Go.RowKit

def grdQ (d : D) (want : Bool) (A B : Prop) : Prop :=
  match d with
  | .bool b => match want with
    | true => (b = true → A) ∧ (b = false → B)
    | false => (b = false → A) ∧ (b = true → B)
  | .nov => B
  | _ => False
/-- what an operation's guard says -/
def guardQ (ops : Array Oper) (σ : Slots) (g : Option (Nat × Bool)) (yes no : Prop) : Prop :=
  match g with
  | none => yes
  | some (j, want) =>
    match (ops[j]?).bind (·.dst) with
    | some d => grdQ (σ d) want yes no
    | none => no

def skipQ (n : Nat) (dst : Option Tmp) (σ : Slots) (K : Slots → Prop) : Prop :=
  match dst with
  | some d => d < n ∧ K (upd σ d .nov)
  | none => K σ

def aOps (P : Program) (n : Nat) (ops : Array Oper) : List Oper → Slots → Tab → (Slots → Tab → Prop) → Prop
  | [], σ, M, K => K σ M
  | o :: rest, σ, M, K => guardQ ops σ o.guard (stp P n o.dst o.op σ M fun σ' M' => aOps P n ops rest σ' M' K) (skipQ n o.dst σ fun σ' => aOps P n ops rest σ' M K)

section
variable {B0 : Nat} {X I0 : Nat → Prop} {w0 : World} {n : Nat} {Im : Nat → Prop} {β : Nat → RowG} {σ : Nat → D} {M : Nat → Option Ent} {a : Act} {w : World} {P : Program}

theorem yielded_of (h : StG B0 X I0 w0 n Im β σ M a w) {ops : Array Oper} {j d : Nat} (hd : (ops[j]?).bind (·.dst) = some d) :
    (∀ b, σ d = .bool b → yielded ops a.tmps j = some b) ∧ (σ d = .nov → yielded ops a.tmps j = none) := by
  have hget : ∀ v, a.tmps.getD d undef = v → v ≠ undef → a.tmps[d]? = some v := by
    intro v hv hne
    rcases Nat.lt_or_ge d a.tmps.size with hlt | hge
    · simp [hlt] at hv ⊢; exact hv
    · simp [hge] at hv; exact absurd hv.symm hne
  have hs := h.ev (.tmp d)
  simp only [ev, Act.eval] at hs
  constructor
  · intro b hb
    rw [hb] at hs
    simp only [Rv, Rc] at hs
    have := hget _ hs (by simp [undef])
    simp [yielded, hd, this]
  · intro hb
    rw [hb] at hs
    simp only [Rv, Rc] at hs
    unfold yielded
    rw [hd]
    simp only [Option.bind_some]
    rcases Nat.lt_or_ge d a.tmps.size with hlt | hge
    · simp [hlt] at hs ⊢
      rw [hs]
      simp [undef]
    · simp [hge]

theorem StG.skip (h : StG B0 X I0 w0 n Im β σ M a w) {d : Nat} (hd : d < n) : StG B0 X I0 w0 n Im β (upd σ d .nov) M (a.put (some d) undef) w := h.put hd (by simp [Rv, Rc])

theorem aOps_sound {ops : Array Oper} {Q : Exit → Act → World → Prop} : ∀ (l : List Oper) (σ : Slots) (M : Tab) (a : Act) (w : World) (K : Slots → Tab → Prop), St B0 X I0 w0 n σ M a w → aOps P n ops l σ M K →
    (∀ σ M a w, St B0 X I0 w0 n σ M a w → K σ M → Q .normal a w) → wpList P ops Q l a w
  | [], σ, M, a, w, K, hs, hq, hK => hK σ M a w hs hq
  | o :: rest, σ, M, a, w, K, hs, hq, hK => by
    obtain ⟨Im, β, h⟩ := hs
    simp only [aOps] at hq
    refine wpList_step fun K' hK' => ?_
    have yes : stp P n o.dst o.op σ M (fun σ' M' => aOps P n ops rest σ' M' K) → o.wp P a w K' Q := fun hst =>
      stp_sound h hst K' Q (fun σ' M' a' w' hs' hk => hK' a' w' (aOps_sound rest σ' M' a' w' K hs' hk hK))
    have no : skipQ n o.dst σ (fun σ' => aOps P n ops rest σ' M K) → K' (a.put o.dst undef) w := by
      intro hsk
      unfold skipQ at hsk
      split at hsk
      · rename_i d hd
        rw [hd]
        exact hK' _ _ (aOps_sound rest _ M _ w K ⟨Im, β, h.skip hsk.1⟩ hsk.2 hK)
      · rename_i hd
        rw [hd]
        exact hK' _ _ (aOps_sound rest _ M _ w K ⟨Im, β, h⟩ hsk hK)
    unfold guardQ at hq
    split at hq
    · rename_i hg
      rw [if_pos (by simp [Region.wanted, hg])]
      exact yes hq
    · rename_i j want hg
      split at hq
      · rename_i d hd
        obtain ⟨y1, y2⟩ := yielded_of h hd
        unfold grdQ at hq
        split at hq
        · rename_i b hb
          have hy := y1 b hb
          cases b <;> cases want <;> simp only at hq
          · rw [if_pos (by simp [Region.wanted, hg, hy])]
            exact yes (hq.1 (by simp))
          · rw [if_neg (by simp [Region.wanted, hg, hy])]
            exact no (hq.2 (by simp))
          · rw [if_neg (by simp [Region.wanted, hg, hy])]
            exact no (hq.2 (by simp))
          · rw [if_pos (by simp [Region.wanted, hg, hy])]
            exact yes (hq.1 (by simp))
        · rename_i hb
          rw [if_neg (by simp [Region.wanted, hg, y2 hb])]
          exact no hq
        · exact hq.elim
      · rename_i hd
        rw [if_neg (by simp [Region.wanted, hg, yielded, hd])]
        exact no hq
end

/-! ### control -/
inductive Ex where
  | normal
  | exit (id : Nat)
  | ret

/-- s is no stronger than s' was: whatever stands for the first stands for the second -/
def Imp (n : Nat) (σ : Slots) (M : Tab) (σ' : Slots) (M' : Tab) : Prop := ∀ B0 X I0 w0 a w, St B0 X I0 w0 n σ M a w → St B0 X I0 w0 n σ' M' a w
theorem Imp.refl (n : Nat) (σ : Slots) (M : Tab) : Imp n σ M σ M := fun _ _ _ _ _ _ h => h

/-- The judgement: from a state that stands for (σ, M) the code comes to Q. -/
def Tr (P : Program) (n : Nat) (c : Code) (Q : Ex → Slots → Tab → Prop) (σ : Slots) (M : Tab) : Prop :=
  ∀ (B0 : Nat) (X I0 : Nat → Prop) (w0 : World) (a : Act) (w : World), St B0 X I0 w0 n σ M a w →
    c.wp P (fun e a' w' => ∃ x σ' M', St B0 X I0 w0 n σ' M' a' w' ∧ Q x σ' M' ∧ match x with | .normal => e = .normal | .exit id => e = .exit id | .ret => e = .ret) a w

section
variable {P : Program} {n : Nat} {Q : Ex → Slots → Tab → Prop} {σ : Slots} {M : Tab}

theorem Tr.weak {c : Code} {σ' : Slots} {M' : Tab} (hi : Imp n σ M σ' M') (h : Tr P n c Q σ' M') : Tr P n c Q σ M := fun B0 X I0 w0 a w hs => h B0 X I0 w0 a w (hi _ _ _ _ _ _ hs)
theorem Tr.mono {c : Code} {Q' : Ex → Slots → Tab → Prop} (h : Tr P n c Q σ M) (hq : ∀ e σ M, Q e σ M → Q' e σ M) : Tr P n c Q' σ M := fun B0 X I0 w0 a w hs =>
  wp_mono (h B0 X I0 w0 a w hs) fun _ _ _ ⟨x, σ', M', h1, h2, h3⟩ => ⟨x, σ', M', h1, hq _ _ _ h2, h3⟩
theorem Tr.skip (h : Q .normal σ M) : Tr P n .skip Q σ M := fun _ _ _ _ _ _ hs => wp_skip ⟨.normal, σ, M, hs, h, rfl⟩
theorem Tr.ret (h : Q .ret σ M) : Tr P n .ret Q σ M := fun _ _ _ _ _ _ hs => wp_ret ⟨.ret, σ, M, hs, h, rfl⟩
theorem Tr.exit {id : Nat} (h : Q (.exit id) σ M) : Tr P n (.exit id) Q σ M := fun _ _ _ _ _ _ hs => wp_exit ⟨.exit id, σ, M, hs, h, rfl⟩
theorem Tr.seq {c d : Code} (h : Tr P n c (fun e σ M => match e with | .normal => Tr P n d Q σ M | e => Q e σ M) σ M) : Tr P n (.seq c d) Q σ M := fun B0 X I0 w0 a w hs =>
  wp_seq (wp_mono (h B0 X I0 w0 a w hs) fun e a' w' ⟨x, σ', M', h1, h2, h3⟩ => by
    cases x with
    | normal => simp only at h2 h3; subst h3; exact h2 B0 X I0 w0 a' w' h1
    | exit id => simp only at h2 h3; subst h3; exact ⟨.exit id, σ', M', h1, h2, rfl⟩
    | ret => simp only at h2 h3; subst h3; exact ⟨.ret, σ', M', h1, h2, rfl⟩)
theorem Tr.cond {c : Operand} {x y : Code} {b : Bool} (hc : ev σ c = .bool b) (ht : b = true → Tr P n x Q σ M) (hf : b = false → Tr P n y Q σ M) : Tr P n (.cond c x y) Q σ M := fun B0 X I0 w0 a w hs => by
  obtain ⟨Im, β, h⟩ := hs
  have := h.ev c
  rw [hc] at this
  simp only [Rv, Rc] at this
  exact wp_cond_split this (fun hb => ht hb B0 X I0 w0 a w ⟨Im, β, h⟩) (fun hb => hf hb B0 X I0 w0 a w ⟨Im, β, h⟩)
theorem Tr.block {id : Nat} {c : Code} (h : Tr P n c (fun e σ M => match e with | .exit i => if i = id then Q .normal σ M else Q (.exit i) σ M | e => Q e σ M) σ M) : Tr P n (.block id c) Q σ M := fun B0 X I0 w0 a w hs =>
  wp_block (wp_mono (h B0 X I0 w0 a w hs) fun e a' w' ⟨x, σ', M', h1, h2, h3⟩ => by
    cases x with
    | normal => simp only at h2 h3; subst h3; exact ⟨.normal, σ', M', h1, h2, rfl⟩
    | ret => simp only at h2 h3; subst h3; exact ⟨.ret, σ', M', h1, h2, rfl⟩
    | exit i =>
      simp only at h2 h3; subst h3
      by_cases hi : i = id
      · simp only [if_pos hi] at h2
        simp only [Exit.inBlock, if_pos hi]
        exact ⟨.normal, σ', M', h1, h2, by simp⟩
      · simp only [if_neg hi] at h2
        simp only [Exit.inBlock, if_neg hi]
        exact ⟨.exit i, σ', M', h1, h2, rfl⟩)
theorem Tr.loop {c : Code} (I : Slots → Tab → Prop) (μ : Slots → Tab → Nat) (h0 : I σ M)
    (round : ∀ σ M, I σ M → Tr P n c (fun e σ' M' => match e with | .normal => ∃ σ'' M'', Imp n σ' M' σ'' M'' ∧ I σ'' M'' ∧ μ σ'' M'' < μ σ M | e => Q e σ' M') σ M) : Tr P n (.loop c) Q σ M := by
  intro B0 X I0 w0 a w hs b kk cs
  have key : ∀ (k : Nat) (σ : Slots) (M : Tab) (a : Act) (w : World), μ σ M = k → I σ M → St B0 X I0 w0 n σ M a w →
      ∃ e a' w', (∃ x σ' M', St B0 X I0 w0 n σ' M' a' w' ∧ Q x σ' M' ∧ match x with | .normal => e = .normal | .exit id => e = .exit id | .ret => e = .ret) ∧ Arrives P (lone (b.at a (.code c :: .inLoop c :: kk)) cs w) b kk cs e a' w' := by
    intro k
    induction k using Nat.strongRecOn with
    | _ k ih =>
      intro σ M a w hk hI hs
      obtain ⟨e, a1, w1, hq, harr⟩ := round σ M hI B0 X I0 w0 a w hs b (.inLoop c :: kk) cs
      obtain ⟨x, σ', M', h1, h2, h3⟩ := hq
      cases x with
      | normal =>
        simp only at h2 h3
        subst h3
        obtain ⟨σ'', M'', hi, hI', hlt⟩ := h2
        obtain ⟨e2, a2, w2, hq2, harr2⟩ := ih (μ σ'' M'') (by omega) σ'' M'' a1 w1 rfl hI' (hi _ _ _ _ _ _ h1)
        exact ⟨e2, a2, w2, hq2, .of_steps (Steps.trans harr (.one step_inLoop)) harr2⟩
      | exit id => simp only at h2 h3; subst h3; exact ⟨_, a1, w1, ⟨.exit id, σ', M', h1, h2, rfl⟩, .pass (x := .inLoop c) rfl (fun _ _ => .inl (by simp)) harr⟩
      | ret => simp only at h2 h3; subst h3; exact ⟨_, a1, w1, ⟨.ret, σ', M', h1, h2, rfl⟩, .pass (x := .inLoop c) rfl (fun _ _ => .inl (by simp)) harr⟩
  obtain ⟨e, a', w', hq, harr⟩ := key _ σ M a w rfl h0 hs
  exact ⟨e, a', w', hq, .of_steps (.one step_loop) harr⟩
theorem Tr.region {id : Nat} {ops : Array Oper} (h : aOps P n ops ops.toList σ M (Q .normal)) : Tr P n (.region id ops false) Q σ M := fun _ _ _ _ a w hs =>
  wp_region_list (aOps_sound ops.toList σ M a w _ hs h fun σ' M' _ _ h1 h2 => ⟨.normal, σ', M', h1, h2, rfl⟩)
end
end Go.Proofs.Ytelolknpcmjdeaa
