/- A row that is only read from now on; a nil slice as an own row. -/
import Derived.Test.YtelolknpcmjdeaaMr
namespace Go.Proofs.Ytelolknpcmjdeaa
open Go.RowKit

mutual
/-- the row x, now only read -/
def frz (x : Nat) (rows : List (List D)) : D → D
  | .ptr j i off => if j = x then .any else .ptr j i off
  | .fs j => if j = x then .sl rows else .fs j
  | .agg cs => .agg (frzL x rows cs)
  | .tup cs => .tup (frzL x rows cs)
  | .int k n => .int k n
  | .bool b => .bool b
  | .str s => .str s
  | .nov => .nov
  | .any => .any
  | .nl => .nl
  | .sl rows => .sl rows
  | .ep row off => .ep row off
def frzL (x : Nat) (rows : List (List D)) : List D → List D
  | [] => []
  | d :: ds => frz x rows d :: frzL x rows ds
end
def Ent.frz (x : Nat) (rows : List (List D)) : Ent → Ent
  | .row r => .row r
  | .box cells => .box (frzL x rows cells)

section
variable {w : World} {Im Im' : Nat → Prop} {β : Nat → RowG} {M M' : Nat → Option Ent}
mutual
theorem Rv_frz {x : Nat} {rows : List (List D)} (hi : ∀ b, Im b → Im' b) (ha : AgreeBut x β β M M') (hx : M x = some (.row rows)) (hr : Rc w Im' (.sl rows) ((β x).val rows.length)) : ∀ (d : D) (v : Value), Rv w Im β M d v → Rv w Im' β M' (frz x rows d) v
  | .int .., _, h | .bool _, _, h | .str _, _, h | .nov, _, h | .any, _, h | .nl, _, h | .sl _, _, h | .ep .., _, h => by
    simp only [Rv, frz] at h ⊢
    exact Rc_mono (fun _ _ _ => rfl) hi _ _ h
  | .ptr id i off, v, h => by
    by_cases e : id = x
    · simp [frz, e, Rv, Rc]
    · simp only [Rv, frz, if_neg e] at h ⊢
      obtain ⟨h1, h2, rfl⟩ := h
      obtain ⟨e1, e2, _⟩ := ha id e h1
      exact ⟨e2, h2, rfl⟩
  | .fs id, v, h => by
    by_cases e : id = x
    · subst e
      simp only [Rv] at h
      obtain ⟨n, h1, rfl⟩ := h
      simp only [hx, Option.bind_some, Ent.len, Option.some.injEq] at h1
      subst h1
      simp only [frz, if_true, Rv]
      exact hr
    · simp only [Rv, frz, if_neg e] at h ⊢
      obtain ⟨n, h1, rfl⟩ := h
      obtain ⟨e1, _, e3⟩ := ha id e (bind_len_isSome h1)
      rw [e3]
      exact ⟨n, h1, rfl⟩
  | .agg cs, v, h => by
    simp only [Rv, frz] at h ⊢
    obtain ⟨a, rfl, h⟩ := h
    exact ⟨a, rfl, RvL_frz hi ha hx hr cs a h⟩
  | .tup cs, v, h => by
    simp only [Rv, frz] at h ⊢
    obtain ⟨a, rfl, h⟩ := h
    exact ⟨a, rfl, RvL_frz hi ha hx hr cs a h⟩
theorem RvL_frz {x : Nat} {rows : List (List D)} (hi : ∀ b, Im b → Im' b) (ha : AgreeBut x β β M M') (hx : M x = some (.row rows)) (hr : Rc w Im' (.sl rows) ((β x).val rows.length)) : ∀ (ds : List D) (vs : List Value), RvL w Im β M ds vs → RvL w Im' β M' (frzL x rows ds) vs
  | [], _, h => by simpa [RvL, frzL] using h
  | d :: ds, vs, h => by
    simp only [RvL, frzL] at h ⊢
    obtain ⟨v, r, rfl, h1, h2⟩ := h
    exact ⟨v, r, rfl, Rv_frz hi ha hx hr d v h1, RvL_frz hi ha hx hr ds r h2⟩
end
end

def frzP (x : Nat) (rows : List (List D)) : List (Nat × D) → List (Nat × D)
  | [] => []
  | (i, d) :: l => (i, frz x rows d) :: frzP x rows l
def frzT (x : Nat) (rows : List (List D)) : List (Nat × Ent) → List (Nat × Ent)
  | [] => []
  | (i, e) :: l => (i, e.frz x rows) :: frzT x rows l
theorem frzS_mk (x : Nat) (rows : List (List D)) : ∀ (l : List (Nat × D)), (fun j => frz x rows (mk l j)) = mk (frzP x rows l)
  | [] => by funext j; simp [mk, frzP, frz]
  | (i, d) :: l => by
    funext j
    have := congrFun (frzS_mk x rows l) j
    simp only [mk, frzP] at this ⊢
    split
    · rfl
    · exact this
theorem frzM_mkT (x : Nat) (rows : List (List D)) : ∀ (l : List (Nat × Ent)), (fun j => (mkT l j).map (Ent.frz x rows)) = mkT (frzT x rows l)
  | [] => by funext j; simp [mkT, frzT]
  | (i, e) :: l => by
    funext j
    have := congrFun (frzM_mkT x rows l) j
    simp only [mkT, frzT] at this ⊢
    split
    · rfl
    · exact this

theorem imp_freeze' {n : Nat} {σ : Slots} {M : Tab} (x : Nat) {rows : List (List D)} (hx : M x = some (.row rows)) : Imp n σ M (fun j => frz x rows (σ j)) (fun j => if j = x then none else (M j).map (Ent.frz x rows)) := by
  rintro B0 X I0 w0 a w ⟨Im, β, h⟩
  have hag : AgreeBut x β β M (fun j => if j = x then none else (M j).map (Ent.frz x rows)) := by
    intro id hid hs
    obtain ⟨e, he⟩ := Option.isSome_iff_exists.1 hs
    refine ⟨rfl, by simp [hid, he], ?_⟩
    simp only [hid, if_false, he, Option.map_some, Option.bind_some]
    cases e <;> simp [Ent.frz, Ent.len]
  have hget : ∀ {j e}, (if j = x then none else (M j).map (Ent.frz x rows)) = some e → j ≠ x ∧ ∃ e0, M j = some e0 ∧ e = e0.frz x rows := by
    intro j e hj
    by_cases hjx : j = x
    · simp [hjx] at hj
    · simp only [hjx, if_false, Option.map_eq_some_iff] at hj
      obtain ⟨e0, h1, h2⟩ := hj
      exact ⟨hjx, e0, h1, h2.symm⟩
  have hI : ∀ b, Im b → (Im b ∨ ((β x).nil = false ∧ b = (β x).blk)) := fun b hb => .inl hb
  have hr : Rc w (fun b => Im b ∨ ((β x).nil = false ∧ b = (β x).blk)) (.sl rows) ((β x).val rows.length) := Rc_of_rows hI (fun hn => .inr ⟨hn, rfl⟩) (h.tab x _ hx)
  refine ⟨fun b => Im b ∨ ((β x).nil = false ∧ b = (β x).blk), β, { defers := h.defers, size := h.size, slots := ?_, hi := ?_, im := ?_, tab := ?_, own := ?_, inj := ?_, base := h.base, fr := h.fr, imo := ?_ }⟩
  · exact fun i hi => Rv_frz hI hag hx hr _ _ (h.slots i hi)
  · intro i hi; rcases h.hi i hi with e | e <;> simp [e, frz]
  · rintro b (hb | ⟨hn, rfl⟩)
    · exact h.im b hb
    · exact h.blk_lt hx hn
  · intro j e hj
    obtain ⟨hjx, e0, he0, rfl⟩ := hget hj
    have hnot : (β j).nil = false → ¬ (Im (β j).blk ∨ ((β x).nil = false ∧ (β j).blk = (β x).blk)) := by
      rintro hn (hb | ⟨hn', he⟩)
      · exact h.not_im he0 hn hb
      · exact hjx (h.inj j x (by simp [he0]) (by simp [hx]) hn hn' he)
    have hok := h.tab j e0 he0
    cases e0 with
    | row r =>
      simp only [EntOk, Ent.frz] at hok ⊢
      refine hok.imp id ?_
      rintro ⟨h1, h2, h3, h4, cur, e, h5, h6, h7, h8⟩
      exact ⟨h1, hnot h1, h3, h4, cur, e, h5, h6, h7, RcRowsL_mono (fun _ _ _ => rfl) hI _ _ _ h8⟩
    | box cells =>
      simp only [EntOk, Ent.frz] at hok ⊢
      obtain ⟨h1, h2, cur, e, h3, h4, h5⟩ := hok
      exact ⟨h1, hnot h1, cur, e, h3, h4, RvL_frz hI hag hx hr _ _ h5⟩
  · intro j e hj hn
    obtain ⟨_, e0, he0, rfl⟩ := hget hj
    exact h.own j e0 he0 hn
  · intro j j' hj hj' hn hn' he
    obtain ⟨e, hje⟩ := Option.isSome_iff_exists.1 hj
    obtain ⟨e', hje'⟩ := Option.isSome_iff_exists.1 hj'
    obtain ⟨_, e0, he0, _⟩ := hget hje
    obtain ⟨_, e1, he1, _⟩ := hget hje'
    exact h.inj j j' (by simp [he0]) (by simp [he1]) hn hn' he
  · rintro b (hb | ⟨hn, rfl⟩)
    · exact h.imo b hb
    · exact .inr (h.own x _ hx hn)

theorem imp_freeze {n : Nat} {l : List (Nat × D)} {m : List (Nat × Ent)} {σ' : Slots} {M' : Tab} (x : Nat) {rows : List (List D)} (hx : mkT m x = some (.row rows)) (h : Imp n (mk (frzP x rows l)) (mkT (del x (frzT x rows m))) σ' M') : Imp n (mk l) (mkT m) σ' M' := by
  refine Imp.trans (imp_freeze' x hx) ?_
  have e1 : (fun j => if j = x then none else (mkT m j).map (Ent.frz x rows)) = mkT (del x (frzT x rows m)) := by
    funext j; rw [mkT_del, ← frzM_mkT]
  rw [e1, frzS_mk]
  exact h

/-- a nil slice in a slot, from now on an own row without cells -/
theorem imp_nil {n : Nat} {l : List (Nat × D)} {m : List (Nat × Ent)} {σ' : Slots} {M' : Tab} (slot x : Nat) (hs : mk l slot = .nl) (hx : mkT m x = none) (h : Imp n (mk ((slot, .fs x) :: l)) (mkT ((x, .row []) :: m)) σ' M') : Imp n (mk l) (mkT m) σ' M' := by
  refine Imp.trans ?_ h
  clear h
  rintro B0 X I0 w0 a w ⟨Im, β, h⟩
  have hag : Agree β (upd β x ⟨0, 0, 0, true⟩) (mkT m) (mkT ((x, .row []) :: m)) := by
    intro id hs
    have hne : id ≠ x := fun e => by rw [e, hx] at hs; cases hs
    simp [upd, mkT, hne, hs]
  have hget : ∀ {j e}, mkT ((x, Ent.row []) :: m) j = some e → (j = x ∧ e = .row []) ∨ (j ≠ x ∧ mkT m j = some e) := by
    intro j e hj
    simp only [mkT] at hj
    split at hj
    · rename_i e1; cases hj; exact .inl ⟨e1, rfl⟩
    · rename_i e1; exact .inr ⟨e1, hj⟩
  refine ⟨Im, upd β x ⟨0, 0, 0, true⟩, { defers := h.defers, size := h.size, slots := ?_, hi := ?_, im := h.im, tab := ?_, own := ?_, inj := ?_, base := h.base, fr := h.fr, imo := h.imo }⟩
  · intro i hi
    by_cases e : i = slot
    · subst e
      have := h.slots i hi
      rw [hs] at this
      simp only [Rv, Rc] at this
      simp [mk, Rv, this, mkT, Ent.len, upd, RowG.val]
    · simp only [mk, if_neg e]
      exact Rv_mono (fun _ _ _ => rfl) (fun _ hb => hb) hag _ _ (h.slots i hi)
  · intro i hi
    by_cases e : i = slot
    · subst e
      rcases h.hi i hi with e | e <;> rw [hs] at e <;> cases e
    · simp only [mk, if_neg e]; exact h.hi i hi
  · intro j e hj
    rcases hget hj with ⟨rfl, rfl⟩ | ⟨hne, hj⟩
    · simp [EntOk, upd]
    · rw [upd_ne _ _ hne]
      exact EntOk_mono (fun _ _ _ => rfl) (fun _ hb => hb) hag (fun hn => h.not_im hj hn) (fun _ => rfl) _ (h.tab j e hj)
  · intro j e hj hn
    rcases hget hj with ⟨rfl, rfl⟩ | ⟨hne, hj⟩
    · simp [upd] at hn
    · rw [upd_ne _ _ hne] at hn ⊢
      exact h.own j e hj hn
  · intro j j' hj hj' hn hn' he
    obtain ⟨e, hje⟩ := Option.isSome_iff_exists.1 hj
    obtain ⟨e', hje'⟩ := Option.isSome_iff_exists.1 hj'
    rcases hget hje with ⟨rfl, _⟩ | ⟨hne, hj1⟩
    · simp [upd] at hn
    · rcases hget hje' with ⟨rfl, _⟩ | ⟨hne', hj2⟩
      · simp [upd] at hn'
      · rw [upd_ne _ _ hne] at hn he
        rw [upd_ne _ _ hne'] at hn' he
        exact h.inj j j' (by simp [hj1]) (by simp [hj2]) hn hn' he
end Go.Proofs.Ytelolknpcmjdeaa
