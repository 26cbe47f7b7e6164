/- Weakening of written-out states; loops. -/
import Derived.Test.YtelolknpcmjdeaaMp
namespace Go.Proofs.Ytelolknpcmjdeaa
open Go.RowKit

theorem Imp.trans {n : Nat} {σ σ' σ'' : Slots} {M M' M'' : Tab} (h : Imp n σ M σ' M') (h' : Imp n σ' M' σ'' M'') : Imp n σ M σ'' M'' := fun _ _ _ _ _ _ hs => h' _ _ _ _ _ _ (h _ _ _ _ _ _ hs)

/-- an entry of the table is dropped, and with it every mention of it -/
theorem imp_drop' {n : Nat} {σ : Slots} {M : Tab} (x : Nat) : Imp n σ M (scrS x σ) (fun j => if j = x then none else scrM x M j) := by
  rintro B0 X I0 w0 a w ⟨Im, β, h⟩
  have hag : AgreeBut x β β M (fun j => if j = x then none else scrM x M j) := by
    intro id hid hs
    obtain ⟨e, he⟩ := Option.isSome_iff_exists.1 hs
    refine ⟨rfl, by simp [hid, scrM, he], ?_⟩
    simp only [hid, if_false, scrM, he, Option.map_some, Option.bind_some]
    cases e <;> simp [Ent.scr, Ent.len]
  have hget : ∀ {j e}, (if j = x then none else scrM x M j) = some e → j ≠ x ∧ ∃ e0, M j = some e0 ∧ e = e0.scr x := by
    intro j e hj
    by_cases hjx : j = x
    · simp [hjx] at hj
    · simp only [hjx, if_false, scrM, Option.map_eq_some_iff] at hj
      obtain ⟨e0, h1, h2⟩ := hj
      exact ⟨hjx, e0, h1, h2.symm⟩
  refine ⟨Im, β, { defers := h.defers, size := h.size, slots := ?_, hi := ?_, im := h.im, tab := ?_, own := ?_, inj := ?_, base := h.base, fr := h.fr, imo := h.imo }⟩
  · exact fun i hi => Rv_scr (fun _ _ _ => rfl) (fun _ hb => hb) hag _ _ (h.slots i hi)
  · intro i hi; rcases h.hi i hi with e | e <;> simp [scrS, e, scr]
  · intro j e hj
    obtain ⟨hjx, e0, he0, rfl⟩ := hget hj
    exact EntOk_scr (fun _ _ _ => rfl) (fun _ hb => hb) hag (fun hn => h.not_im he0 hn) (fun _ => rfl) e0 (h.tab j e0 he0)
  · intro j e hj hn
    obtain ⟨_, e0, he0, rfl⟩ := hget hj
    exact h.own j e0 he0 hn
  · intro j j' hj hj' hn hn' he
    obtain ⟨e, hje⟩ := Option.isSome_iff_exists.1 hj
    obtain ⟨e', hje'⟩ := Option.isSome_iff_exists.1 hj'
    obtain ⟨_, e0, he0, _⟩ := hget hje
    obtain ⟨_, e1, he1, _⟩ := hget hje'
    exact h.inj j j' (by simp [he0]) (by simp [he1]) hn hn' he

theorem imp_drop {n : Nat} {l : List (Nat × D)} {m : List (Nat × Ent)} {σ' : Slots} {M' : Tab} (x : Nat) (h : Imp n (mk (scrP x l)) (mkT (del x (scrT x m))) σ' M') : Imp n (mk l) (mkT m) σ' M' := by
  refine Imp.trans (imp_drop' x) ?_
  have e1 : (fun j => if j = x then none else scrM x (mkT m) j) = mkT (del x (scrT x m)) := by
    funext j; rw [mkT_del, ← scrM_mkT]
  rw [e1, scrS_mk]
  exact h

/-- what is kept of the slots, of the table -/
def Keep (l : List (Nat × D)) : List (Nat × D) → Prop
  | [] => True
  | (i, d) :: r => mk l i = d ∧ Keep l r
def KeepT (m : List (Nat × Ent)) : List (Nat × Ent) → Prop
  | [] => True
  | (i, e) :: r => mkT m i = some e ∧ KeepT m r
theorem keep_get {l : List (Nat × D)} : ∀ {l' : List (Nat × D)} (i : Nat), Keep l l' → mk l' i = mk l i ∨ mk l' i = .any
  | [], i, _ => .inr rfl
  | (j, d) :: r, i, h => by
    simp only [Keep] at h
    simp only [mk]
    split
    · rename_i e; subst e; exact .inl h.1.symm
    · exact keep_get i h.2
theorem keepT_get {m : List (Nat × Ent)} : ∀ {m' : List (Nat × Ent)} (i : Nat), KeepT m m' → (mkT m' i).isSome = true → mkT m' i = mkT m i
  | [], i, _, h => by simp [mkT] at h
  | (j, d) :: r, i, h, hs => by
    simp only [KeepT] at h
    simp only [mkT] at hs ⊢
    split
    · rename_i e; subst e; exact h.1.symm
    · rename_i e; rw [if_neg e] at hs; exact keepT_get i h.2 hs
def keysIn (m m' : List (Nat × Ent)) : Bool := m.all fun p => m'.any fun q => q.1 == p.1
theorem keysIn_get {m' : List (Nat × Ent)} : ∀ {m : List (Nat × Ent)} (i : Nat), keysIn m m' = true → (mkT m i).isSome = true → (mkT m' i).isSome = true := by
  have key : ∀ (r : List (Nat × Ent)) (i : Nat), (r.any fun q => q.1 == i) = true → (mkT r i).isSome = true := by
    intro r i h
    induction r with
    | nil => simp at h
    | cons q r ih =>
      obtain ⟨j, e⟩ := q
      simp only [mkT]
      split
      · rfl
      · rename_i hne
        simp only [List.any_cons, Bool.or_eq_true, beq_iff_eq] at h
        rcases h with h | h
        · exact absurd h.symm hne
        · exact ih h
  intro m i h hs
  induction m with
  | nil => simp [mkT] at hs
  | cons q r ih =>
    obtain ⟨j, e⟩ := q
    simp only [keysIn, List.all_cons, Bool.and_eq_true] at h
    simp only [mkT] at hs
    split at hs
    · rename_i e'; subst e'; exact key m' i h.1
    · exact ih h.2 hs
theorem imp_keep {n : Nat} {l l' : List (Nat × D)} {m m' : List (Nat × Ent)} (h : Keep l l') (hT : KeepT m m') (hk : keysIn m m' = true) : Imp n (mk l) (mkT m) (mk l') (mkT m') := by
  have : mkT m' = mkT m := by
    funext i
    cases hm : mkT m i with
    | none =>
      cases hm' : mkT m' i with
      | none => rfl
      | some e => rw [← hm', keepT_get i hT (by simp [hm']), hm]
    | some e => rw [← hm]; exact keepT_get i hT (keysIn_get i hk (by simp [hm]))
  rw [this]
  exact imp_any fun i => keep_get i h

/-- the round's end -/
def Rnd {α : Type} (n : Nat) (Q : Ex → Slots → Tab → Prop) (S : α → List (Nat × D)) (T : α → List (Nat × Ent)) (I : α → Prop) (μ : α → Nat) (k : Nat) : Ex → Slots → Tab → Prop
  | .normal, σ, M => ∃ a, Imp n σ M (mk (S a)) (mkT (T a)) ∧ I a ∧ μ a < k
  | .exit i, σ, M => Q (.exit i) σ M
  | .ret, σ, M => Q .ret σ M
section
variable {α : Type} {P : Program} {n : Nat} {Q : Ex → Slots → Tab → Prop} {S : α → List (Nat × D)} {T : α → List (Nat × Ent)} {I : α → Prop} {μ : α → Nat} {k : Nat} {σ : Slots} {M : Tab}
theorem k_rndX {i : Nat} (h : Q (.exit i) σ M) : Rnd n Q S T I μ k (.exit i) σ M := h
theorem k_rndR (h : Q .ret σ M) : Rnd n Q S T I μ k .ret σ M := h
theorem k_rnd (a : α) (h : Imp n σ M (mk (S a)) (mkT (T a))) (hi : I a) (hm : μ a < k) : Rnd n Q S T I μ k .normal σ M := ⟨a, h, hi, hm⟩
end
/-- A LOOP over written-out states. -/
theorem t_loop {α : Type} {P : Program} {n : Nat} {Q : Ex → Slots → Tab → Prop} {c : Code} {σ : Slots} {M : Tab} (S : α → List (Nat × D)) (T : α → List (Nat × Ent)) (I : α → Prop) (μ : α → Nat) (a0 : α)
    (hi : Imp n σ M (mk (S a0)) (mkT (T a0))) (h0 : I a0) (round : ∀ a, I a → Tr P n c (Rnd n Q S T I μ (μ a)) (mk (S a)) (mkT (T a))) : Tr P n (.loop c) Q σ M := by
  refine Tr.weak hi ?_
  intro B0 X I0 w0 a w hs b kk cs
  have key : ∀ (k : Nat) (x : α) (a : Act) (w : World), μ x = k → I x → St B0 X I0 w0 n (mk (S x)) (mkT (T x)) a w →
      ∃ e a' w', (∃ x σ' M', St B0 X I0 w0 n σ' M' a' w' ∧ Q x σ' M' ∧ match x with | .normal => e = .normal | .exit id => e = .exit id | .ret => e = .ret) ∧ Arrives P (lone (b.at a (.code c :: .inLoop c :: kk)) cs w) b kk cs e a' w' := by
    intro k
    induction k using Nat.strongRecOn with
    | _ k ih =>
      intro y a w hk hI hs
      obtain ⟨e, a1, w1, hq, harr⟩ := round y hI B0 X I0 w0 a w hs b (.inLoop c :: kk) cs
      obtain ⟨x, σ', M', h1, h2, h3⟩ := hq
      cases x with
      | normal =>
        simp only at h3
        subst h3
        obtain ⟨y', hi, hI', hlt⟩ := h2
        obtain ⟨e2, a2, w2, hq2, harr2⟩ := ih (μ y') (by omega) y' a1 w1 rfl hI' (hi _ _ _ _ _ _ h1)
        exact ⟨e2, a2, w2, hq2, .of_steps (Steps.trans harr (.one step_inLoop)) harr2⟩
      | exit id => simp only at h3; subst h3; exact ⟨_, a1, w1, ⟨.exit id, σ', M', h1, h2, rfl⟩, .pass (x := .inLoop c) rfl (fun _ _ => .inl (by simp)) harr⟩
      | ret => simp only at h3; subst h3; exact ⟨_, a1, w1, ⟨.ret, σ', M', h1, h2, rfl⟩, .pass (x := .inLoop c) rfl (fun _ _ => .inl (by simp)) harr⟩
  obtain ⟨e, a', w', hq, harr⟩ := key _ a0 a w rfl h0 hs
  exact ⟨e, a', w', hq, .of_steps (.one step_loop) harr⟩
end Go.Proofs.Ytelolknpcmjdeaa
