/- The operations that write or make memory, and calls. -/
import Derived.Test.YtelolknpcmjdeaaMc
import Derived.Great.BuildSlice
namespace Go.Proofs.Ytelolknpcmjdeaa
open Go.RowKit

def scrS (id : Nat) (σ : Nat → D) : Nat → D := fun i => scr id (σ i)
def scrM (id : Nat) (M : Nat → Option Ent) : Nat → Option Ent := fun i => (M i).map (Ent.scr id)

section
variable {B0 : Nat} {X I0 : Nat → Prop} {w0 : World} {n : Nat} {Im : Nat → Prop} {β : Nat → RowG} {σ : Nat → D} {M : Nat → Option Ent} {a : Act} {w : World} {P : Program}

theorem agreeBut_set (id : Nat) (g : RowG) (e : Ent) : AgreeBut id β (upd β id g) M (upd (scrM id M) id (some e)) := by
  intro j hj hs
  rw [upd_ne _ _ hj, upd_ne _ _ hj]
  refine ⟨rfl, by simpa [scrM] using hs, ?_⟩
  cases hM : M j with
  | none => rw [hM] at hs; cases hs
  | some e' => simp [scrM, hM, Ent.len_scr]

/-- An entry is made anew (or for the first time): whatever spoke of it is struck. -/
theorem StG.setEnt (h : StG B0 X I0 w0 n Im β σ M a w) {w' : World} (id : Nat) (g : RowG) (e : Ent)
    (hos : w'.os = w.os) (htape : w'.tape = w.tape) (hout : w'.output = w.output) (hsize : w.heap.size ≤ w'.heap.size)
    (hblock : ∀ k, k < w.heap.size → ((M id).isSome = true → (β id).nil = false → k ≠ (β id).blk) → w'.heap[k]? = w.heap[k]?)
    (hok : EntOk w' Im (upd β id g) (upd (scrM id M) id (some e)) g e)
    (hown : g.nil = false → ((M id).isSome = true ∧ (β id).nil = false ∧ g.blk = (β id).blk) ∨ (B0 ≤ g.blk ∧ ∀ j e', M j = some e' → (β j).nil = false → j ≠ id → (β j).blk ≠ g.blk)) :
    StG B0 X I0 w0 n Im (upd β id g) (scrS id σ) (upd (scrM id M) id (some e)) a w' := by
  have hc : ∀ b o, Im b → w'.cell? ⟨b, o, none⟩ = w.cell? ⟨b, o, none⟩ := by
    intro b o hb
    refine World.cell?_of_block (w := w) (hblock b (h.im b hb) ?_)
    intro hs hn he
    obtain ⟨e0, he0⟩ := Option.isSome_iff_exists.1 hs
    exact h.not_im he0 hn (he ▸ hb)
  have hag := agreeBut_set (β := β) (M := M) id g e
  have other : ∀ j e', j ≠ id → M j = some e' → (β j).nil = false → w'.heap[(β j).blk]? = w.heap[(β j).blk]? := by
    intro j e' hj hM hn
    refine hblock _ (h.blk_lt hM hn) ?_
    intro hs hn' he
    exact hj (h.inj j id (by simp [hM]) hs hn hn' he)
  refine { defers := h.defers, size := h.size, slots := ?_, hi := ?_, im := fun b hb => Nat.lt_of_lt_of_le (h.im b hb) hsize, tab := ?_, own := ?_, inj := ?_, base := Nat.le_trans h.base hsize, imo := h.imo, fr := ?_ }
  · exact fun i hi => Rv_scr hc (fun _ hb => hb) hag _ _ (h.slots i hi)
  · intro i hi; rcases h.hi i hi with e | e <;> simp [scrS, e, scr]
  · intro j e' hj
    by_cases hji : j = id
    · subst hji
      rw [upd_same] at hj ⊢
      cases hj
      exact hok
    · rw [upd_ne _ _ hji] at hj ⊢
      simp only [scrM, Option.map_eq_some_iff] at hj
      obtain ⟨e0, he0, rfl⟩ := hj
      exact EntOk_scr hc (fun _ hb => hb) hag (fun hn => h.not_im he0 hn) (fun hn => other j e0 hji he0 hn) e0 (h.tab j e0 he0)
  · intro j e' hj hn
    by_cases hji : j = id
    · subst hji
      rw [upd_same] at hn ⊢
      rcases hown hn with ⟨hs, hn', he⟩ | hle
      · obtain ⟨e0, he0⟩ := Option.isSome_iff_exists.1 hs
        rw [he]; exact h.own j e0 he0 hn'
      · exact .inl hle.1
    · rw [upd_ne _ _ hji] at hj hn ⊢
      simp only [scrM, Option.map_eq_some_iff] at hj
      obtain ⟨e0, he0, rfl⟩ := hj
      exact h.own j e0 he0 hn
  · have key : ∀ j, j ≠ id → (M j).isSome = true → (β j).nil = false → g.nil = false → (β j).blk ≠ g.blk := by
      intro j hj hs hn hg he
      obtain ⟨e0, he0⟩ := Option.isSome_iff_exists.1 hs
      rcases hown hg with ⟨hs', hn', he'⟩ | hle
      · exact hj (h.inj j id hs hs' hn hn' (he.trans he'))
      · exact hle.2 j e0 he0 hn hj he
    intro j j' hj hj' hn hn' he
    by_cases e1 : j = id <;> by_cases e2 : j' = id
    · rw [e1, e2]
    · subst e1
      rw [upd_same] at hn he
      rw [upd_ne _ _ e2] at hn' he hj'
      exact absurd he.symm (key j' e2 (by simpa [scrM] using hj') hn' hn)
    · subst e2
      rw [upd_same] at hn' he
      rw [upd_ne _ _ e1] at hn he hj
      exact absurd he (key j e1 (by simpa [scrM] using hj) hn hn')
    · rw [upd_ne _ _ e1] at hn he hj
      rw [upd_ne _ _ e2] at hn' he hj'
      exact h.inj j j' (by simpa [scrM] using hj) (by simpa [scrM] using hj') hn hn' he
  · refine h.fr.trans ⟨hos, htape, hout, hsize, fun k hk hx => hblock k (Nat.lt_of_lt_of_le hk h.base) ?_⟩
    intro hs hn he
    obtain ⟨e0, he0⟩ := Option.isSome_iff_exists.1 hs
    rcases h.own id e0 he0 hn with h1 | h1
    · omega
    · exact hx (he ▸ h1)

/-- A store: the entry's cells turn where they lie. -/
theorem StG.store (h : StG B0 X I0 w0 n Im β σ M a w) {id : Nat} {e e' : Ent} (hM : M id = some e) (hlen : e'.len = e.len) (hn : (β id).nil = false) (cur' : Array Value)
    (hok : ∀ w', (∀ b o, Im b → w'.cell? ⟨b, o, none⟩ = w.cell? ⟨b, o, none⟩) → (∀ c ty, w.heap[(β id).blk]? = some (.cells c ty (0, 0)) → w'.heap[(β id).blk]? = some (.cells cur' ty (0, 0))) → EntOk w' Im β (upd M id (some e')) (β id) e') :
    StG B0 X I0 w0 n Im β σ (upd M id (some e')) a (w.setRow (β id).blk cur') := by
  have hblk : ∀ k, k ≠ (β id).blk → (w.setRow (β id).blk cur').heap[k]? = w.heap[k]? := fun k hk => setRow_other w _ k cur' hk
  have hc : ∀ b o, Im b → (w.setRow (β id).blk cur').cell? ⟨b, o, none⟩ = w.cell? ⟨b, o, none⟩ := by
    intro b o hb
    exact cell_setRow_other w _ cur' ⟨b, o, none⟩ (fun he => h.not_im hM hn (by rw [← he]; exact hb))
  have hag : Agree β β M (upd M id (some e')) := by
    intro j hs
    refine ⟨rfl, ?_, ?_⟩
    · by_cases hj : j = id
      · subst hj; simp [upd_same]
      · rw [upd_ne _ _ hj]; exact hs
    · by_cases hj : j = id
      · subst hj; simp [upd_same, hM, hlen]
      · rw [upd_ne _ _ hj]
  have hsome : ∀ j, (upd M id (some e') j).isSome = true → (M j).isSome = true := by
    intro j hj
    by_cases e1 : j = id
    · subst e1; simp [hM]
    · rwa [upd_ne _ _ e1] at hj
  refine { defers := h.defers, size := h.size, slots := ?_, hi := h.hi, im := ?_, tab := ?_, own := ?_, inj := ?_, base := ?_, imo := h.imo, fr := ?_ }
  · exact fun i hi => Rv_mono hc (fun _ hb => hb) hag _ _ (h.slots i hi)
  · intro b hb; simpa using h.im b hb
  · intro j e0 hj
    by_cases hji : j = id
    · subst hji
      rw [upd_same] at hj
      cases hj
      exact hok _ hc (fun c ty hct => setRow_heap w _ c cur' ty _ hct)
    · rw [upd_ne _ _ hji] at hj
      refine EntOk_mono hc (fun _ hb => hb) hag (fun hn' => h.not_im hj hn') (fun hn' => hblk _ ?_) e0 (h.tab j e0 hj)
      intro he
      exact hji (h.inj j id (by simp [hj]) (by simp [hM]) hn' hn he)
  · intro j e0 hj hn'
    obtain ⟨e1, he1⟩ := Option.isSome_iff_exists.1 (hsome j (by simp [hj]))
    exact h.own j e1 he1 hn'
  · exact fun j j' hj hj' => h.inj j j' (hsome j hj) (hsome j' hj')
  · simpa using h.base
  · refine h.fr.trans ⟨rfl, rfl, rfl, by simp, fun k hk hx => hblk k ?_⟩
    intro he
    rcases h.own id e hM hn with h1 | h1
    · omega
    · exact hx (he ▸ h1)

/-- An entry is given up: its rows are read from now on, never written. -/
theorem Rc_of_rows {g : RowG} {rows : List (List D)} {Im' : Nat → Prop} (hi : ∀ b, Im b → Im' b) (hg : g.nil = false → Im' g.blk) (hok : EntOk w Im β M g (.row rows)) : Rc w Im' (.sl rows) (g.val rows.length) := by
  simp only [EntOk] at hok
  simp only [Rc]
  rcases hok with ⟨h1, rfl⟩ | ⟨h1, h2, h3, h4, cur, e, h5, h6, h7, h8⟩
  · exact ⟨none, 0, by simp [RowG.val, h1], by simp, .inl rfl⟩
  · refine ⟨some ⟨g.blk, 0, none⟩, g.cap, by simp [RowG.val, h1], h3, .inr ⟨g.blk, 0, g.sz, rfl, hg h1, ?_⟩⟩
    have key : ∀ (rs : List (List D)) (l : List Value) (o : Nat), (∀ v ∈ l, v.oneCell' = true) → CellsAt w g.blk o l → RcRowsL w Im rs g.sz l → RcRows w Im' rs g.sz g.blk o := by
      intro rs
      induction rs with
      | nil => intros; simp [RcRows]
      | cons r rs ih =>
        intro l o ho hc hr
        simp only [RcRowsL] at hr
        obtain ⟨c, rest, rfl, e1, e2, e3⟩ := hr
        simp only [RcRows]
        have hcl := RcL_length _ _ e2
        refine ⟨by rw [← hcl]; exact e1, ?_, ?_⟩
        · have key2 : ∀ (ds : List D) (vs : List Value) (o : Nat), (∀ v ∈ vs, v.oneCell' = true) → CellsAt w g.blk o vs → RcL w Im ds vs → RcRow w Im' ds g.blk o := by
            intro ds
            induction ds with
            | nil => intros; simp [RcRow]
            | cons d ds ih2 =>
              intro vs o hv hc2 hl
              simp only [RcL] at hl
              obtain ⟨v, r', rfl, e4, e5⟩ := hl
              simp only [RcRow]
              refine ⟨⟨v, by simpa using hc2 0 v (by simp), hv v (by simp), Rc_mono (fun _ _ _ => rfl) hi _ _ e4⟩, ih2 r' (o + 1) (fun x hx => hv x (by simp [hx])) ?_ e5⟩
              have := hc2.drop 1
              simpa using this
          refine key2 r c o (fun v hv => ho v (by simp [hv])) ?_ e2
          have := hc.take c.length
          simpa using this
        · refine ih rest (o + g.sz) (fun v hv => ho v (by simp [hv])) ?_ e3
          have := hc.drop c.length
          rw [e1] at this
          simpa [← e1] using this
    exact key rows cur.toList 0 h7 (CellsAt.of_heap h5) h8
end
end Go.Proofs.Ytelolknpcmjdeaa
