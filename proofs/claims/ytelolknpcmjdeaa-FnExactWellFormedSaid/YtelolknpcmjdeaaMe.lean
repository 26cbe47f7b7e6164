/- Calls: what a contract says, and what it gives at a call. -/
import Derived.Test.YtelolknpcmjdeaaMd
namespace Go.Proofs.Ytelolknpcmjdeaa
open Go.RowKit

mutual
/-- what a callee sees of a value -/
def view (M : Nat → Option Ent) : D → D
  | .fs id => match M id with | some (.row rows) => .sl rows | _ => .any
  | .nl => .sl []
  | .ptr .. => .any
  | .agg cs => .agg (viewL M cs)
  | .tup cs => .tup (viewL M cs)
  | .int k n => .int k n
  | .bool b => .bool b
  | .str s => .str s
  | .nov => .nov
  | .any => .any
  | .sl rows => .sl rows
  | .ep row off => .ep row off
def viewL (M : Nat → Option Ent) : List D → List D
  | [] => []
  | d :: ds => view M d :: viewL M ds
end
mutual
/-- no slice of the call's own in it -/
def noFs : D → Bool
  | .fs _ => false
  | .agg cs => noFsL cs
  | .tup cs => noFsL cs
  | _ => true
def noFsL : List D → Bool
  | [] => true
  | d :: ds => noFs d && noFsL ds
end
/-- numbers, bools and strings alone -/
def scal : D → Bool
  | .int .. | .bool _ | .str _ => true
  | _ => false
def FlatRows (rows : List (List D)) : Prop := ∀ r ∈ rows, ∀ d ∈ r, scal d = true
mutual
/-- no slice that is only read in it -/
def noSl : D → Bool
  | .sl _ | .ep .. | .any => false
  | .agg cs => noSlL cs
  | .tup cs => noSlL cs
  | _ => true
def noSlL : List D → Bool
  | [] => true
  | d :: ds => noSl d && noSlL ds
end

mutual
def noPtr : D → Bool
  | .ptr .. => false
  | .agg cs => noPtrL cs
  | .tup cs => noPtrL cs
  | _ => true
def noPtrL : List D → Bool
  | [] => true
  | d :: ds => noPtr d && noPtrL ds
end

def tabOf (rs : List (List (List D))) : Nat → Option Ent := fun k => (rs[k]?).map .row

/-- What a call hands back: closed parts lie in Im', the rows 'rs' are new and nobody else's. -/
def Res (B : Nat) (Im : Nat → Prop) (w' : World) (r : D) (rs : List (List (List D))) (v : Value) : Prop :=
  ∃ (Im' : Nat → Prop) (β : Nat → RowG), (∀ b, Im' b → Im b ∨ B ≤ b) ∧ (∀ b, Im' b → b < w'.heap.size) ∧ Rv w' Im' β (tabOf rs) r v ∧
    (∀ k rows, rs[k]? = some rows → EntOk w' Im' β (tabOf rs) (β k) (.row rows) ∧ ((β k).nil = false → B ≤ (β k).blk)) ∧
    (∀ k k', k < rs.length → k' < rs.length → (β k).nil = false → (β k').nil = false → (β k).blk = (β k').blk → k = k')

def callable (P : Program) (f : FuncId) : Bool := match P.funcs[f]? with | some fn => fn.name != "runtime.NumGoroutine" && fn.body.isSome | none => false

/-- THE CONTRACT of a function that writes nothing that was there. -/
def ACall (P : Program) (f : FuncId) (ds : List D) (r : D) (rs : List (List (List D))) : Prop :=
  callable P f = true ∧ ∀ (w : World) (vs : List Value) (Im : Nat → Prop), (∀ b, Im b → b < w.heap.size) → RcL w Im ds vs →
    Calls P f vs.toArray w fun e w' => ∃ v, e = .returned v ∧ Below w.heap.size w w' ∧ Res w.heap.size Im w' r rs v

section
variable {B0 : Nat} {X I0 : Nat → Prop} {w0 : World} {n : Nat} {Im : Nat → Prop} {β : Nat → RowG} {σ : Nat → D} {M : Nat → Option Ent} {a : Act} {w : World} {P : Program}

mutual
theorem Rc_view (h : StG B0 X I0 w0 n Im β σ M a w) : ∀ (d : D) (v : Value), Rv w Im β M d v → Rc w (fun b => b < w.heap.size) (view M d) v
  | .int .., _, hv | .bool _, _, hv | .str _, _, hv | .nov, _, hv | .sl _, _, hv | .ep .., _, hv => by
    simp only [Rv, view] at hv ⊢
    exact Rc_mono (fun _ _ _ => rfl) h.im _ _ hv
  | .any, _, _ => by simp [view, Rc]
  | .nl, _, hv => by
    simp only [Rv, Rc, view] at hv ⊢
    exact ⟨none, 0, by simpa using hv, by simp, by simp⟩
  | .ptr .., _, _ => by simp [view, Rc]
  | .fs id, v, hv => by
    simp only [view]
    split
    · rename_i rows hM
      simp only [Rv, hM, Option.bind_some, Ent.len, Option.some.injEq] at hv
      obtain ⟨m, rfl, rfl⟩ := hv
      exact Rc_of_rows h.im (fun hn => h.blk_lt hM hn) (h.tab id _ hM)
    · simp [Rc]
  | .agg cs, v, hv => by
    simp only [Rv, view, Rc] at hv ⊢
    obtain ⟨x, rfl, hv⟩ := hv
    exact ⟨x, rfl, RcL_view h cs x hv⟩
  | .tup cs, v, hv => by
    simp only [Rv, view, Rc] at hv ⊢
    obtain ⟨x, rfl, hv⟩ := hv
    exact ⟨x, rfl, RcL_view h cs x hv⟩
theorem RcL_view (h : StG B0 X I0 w0 n Im β σ M a w) : ∀ (ds : List D) (vs : List Value), RvL w Im β M ds vs → RcL w (fun b => b < w.heap.size) (viewL M ds) vs
  | [], _, hv => by simpa [RvL, viewL, RcL] using hv
  | d :: ds, vs, hv => by
    simp only [RvL, viewL, RcL] at hv ⊢
    obtain ⟨v, r, rfl, h1, h2⟩ := hv
    exact ⟨v, r, rfl, Rc_view h d v h1, RcL_view h ds r h2⟩
end

mutual
theorem Rc_viewG {Im2 : Nat → Prop} (hi : ∀ b, Im b → Im2 b) (hrow : ∀ id rows, M id = some (.row rows) → Rc w Im2 (.sl rows) ((β id).val rows.length)) : ∀ (d : D) (v : Value), Rv w Im β M d v → Rc w Im2 (view M d) v
  | .int .., _, hv | .bool _, _, hv | .str _, _, hv | .nov, _, hv | .sl _, _, hv | .ep .., _, hv => by
    simp only [Rv, view] at hv ⊢
    exact Rc_mono (fun _ _ _ => rfl) hi _ _ hv
  | .any, _, _ => by simp [view, Rc]
  | .nl, _, hv => by
    simp only [Rv, Rc, view] at hv ⊢
    exact ⟨none, 0, by simpa using hv, by simp, by simp⟩
  | .ptr .., _, _ => by simp [view, Rc]
  | .fs id, v, hv => by
    simp only [view]
    split
    · rename_i rows hM
      simp only [Rv, hM, Option.bind_some, Ent.len, Option.some.injEq] at hv
      obtain ⟨m, rfl, rfl⟩ := hv
      exact hrow id rows hM
    · simp [Rc]
  | .agg cs, v, hv => by
    simp only [Rv, view, Rc] at hv ⊢
    obtain ⟨x, rfl, hv⟩ := hv
    exact ⟨x, rfl, RcL_viewG hi hrow cs x hv⟩
  | .tup cs, v, hv => by
    simp only [Rv, view, Rc] at hv ⊢
    obtain ⟨x, rfl, hv⟩ := hv
    exact ⟨x, rfl, RcL_viewG hi hrow cs x hv⟩
theorem RcL_viewG {Im2 : Nat → Prop} (hi : ∀ b, Im b → Im2 b) (hrow : ∀ id rows, M id = some (.row rows) → Rc w Im2 (.sl rows) ((β id).val rows.length)) : ∀ (ds : List D) (vs : List Value), RvL w Im β M ds vs → RcL w Im2 (viewL M ds) vs
  | [], _, hv => by simpa [RvL, viewL, RcL] using hv
  | d :: ds, vs, hv => by
    simp only [RvL, viewL, RcL] at hv ⊢
    obtain ⟨v, r, rfl, h1, h2⟩ := hv
    exact ⟨v, r, rfl, Rc_viewG hi hrow d v h1, RcL_viewG hi hrow ds r h2⟩
end

mutual
theorem Rc_viewNo : ∀ (d : D) (v : Value), noFs d = true → Rv w Im β M d v → Rc w Im (view M d) v
  | .int .., _, _, hv | .bool _, _, _, hv | .str _, _, _, hv | .nov, _, _, hv | .sl _, _, _, hv | .ep .., _, _, hv => by
    simp only [Rv, view] at hv ⊢
    exact hv
  | .any, _, _, _ => by simp [view, Rc]
  | .nl, _, _, hv => by
    simp only [Rv, Rc, view] at hv ⊢
    exact ⟨none, 0, by simpa using hv, by simp, by simp⟩
  | .ptr .., _, _, _ => by simp [view, Rc]
  | .fs id, v, hn, hv => by simp [noFs] at hn
  | .agg cs, v, hn, hv => by
    simp only [Rv, view, Rc, noFs] at hv hn ⊢
    obtain ⟨x, rfl, hv⟩ := hv
    exact ⟨x, rfl, RcL_viewNo cs x hn hv⟩
  | .tup cs, v, hn, hv => by
    simp only [Rv, view, Rc, noFs] at hv hn ⊢
    obtain ⟨x, rfl, hv⟩ := hv
    exact ⟨x, rfl, RcL_viewNo cs x hn hv⟩
theorem RcL_viewNo : ∀ (ds : List D) (vs : List Value), noFsL ds = true → RvL w Im β M ds vs → RcL w Im (viewL M ds) vs
  | [], _, _, hv => by simpa [RvL, viewL, RcL] using hv
  | d :: ds, vs, hn, hv => by
    simp only [RvL, viewL, RcL, noFsL, Bool.and_eq_true] at hv hn ⊢
    obtain ⟨v, r, rfl, h1, h2⟩ := hv
    exact ⟨v, r, rfl, Rc_viewNo d v hn.1 h1, RcL_viewNo ds r hn.2 h2⟩
end

mutual
/-- a value without a slice that is only read asks nothing of Im -/
theorem Rv_noSl {Im' : Nat → Prop} : ∀ (d : D) (v : Value), noSl d = true → Rv w Im β M d v → Rv w Im' β M d v
  | .int .., _, _, hv | .bool _, _, _, hv | .str _, _, _, hv | .nov, _, _, hv | .nl, _, _, hv => by
    simp only [Rv, Rc] at hv ⊢
    exact hv
  | .any, _, hn, _ | .sl _, _, hn, _ | .ep .., _, hn, _ => by simp [noSl] at hn
  | .ptr .., _, _, hv | .fs _, _, _, hv => by simpa only [Rv] using hv
  | .agg cs, v, hn, hv => by
    simp only [Rv, noSl] at hv hn ⊢
    obtain ⟨x, rfl, hv⟩ := hv
    exact ⟨x, rfl, RvL_noSl cs x hn hv⟩
  | .tup cs, v, hn, hv => by
    simp only [Rv, noSl] at hv hn ⊢
    obtain ⟨x, rfl, hv⟩ := hv
    exact ⟨x, rfl, RvL_noSl cs x hn hv⟩
theorem RvL_noSl {Im' : Nat → Prop} : ∀ (ds : List D) (vs : List Value), noSlL ds = true → RvL w Im β M ds vs → RvL w Im' β M ds vs
  | [], _, _, hv => by simpa [RvL] using hv
  | d :: ds, vs, hn, hv => by
    simp only [RvL, noSlL, Bool.and_eq_true] at hv hn ⊢
    obtain ⟨v, r, rfl, h1, h2⟩ := hv
    exact ⟨v, r, rfl, Rv_noSl d v hn.1 h1, RvL_noSl ds r hn.2 h2⟩
end
theorem RcL_scal {Im' : Nat → Prop} : ∀ (ds : List D) (vs : List Value), (∀ d ∈ ds, scal d = true) → RcL w Im ds vs → RcL w Im' ds vs
  | [], _, _, hv => by simpa [RcL] using hv
  | d :: ds, vs, hn, hv => by
    simp only [RcL] at hv ⊢
    obtain ⟨v, r, rfl, h1, h2⟩ := hv
    refine ⟨v, r, rfl, ?_, RcL_scal ds r (fun x hx => hn x (by simp [hx])) h2⟩
    have := hn d (by simp)
    cases d <;> simp [scal] at this <;> simpa [Rc] using h1
theorem RcRowsL_scal {Im' : Nat → Prop} : ∀ (rs : List (List D)) (s : Nat) (l : List Value), FlatRows rs → RcRowsL w Im rs s l → RcRowsL w Im' rs s l
  | [], _, _, _, _ => by simp [RcRowsL]
  | r :: rs, s, l, hf, h => by
    simp only [RcRowsL] at h ⊢
    obtain ⟨c, rest, rfl, h1, h2, h3⟩ := h
    exact ⟨c, rest, rfl, h1, RcL_scal _ _ (fun d hd => hf r (by simp) d hd) h2, RcRowsL_scal rs s rest (fun r' hr => hf r' (by simp [hr])) h3⟩
end

/-- The ids under which the rows that a call hands back are kept. -/
def rid (dst k : Nat) : Nat := 1000 * (k + 1) + dst
mutual
def ren (dst : Nat) : D → D
  | .fs k => .fs (rid dst k)
  | .agg cs => .agg (renL dst cs)
  | .tup cs => .tup (renL dst cs)
  | .ptr id i off => .ptr id i off
  | .int k n => .int k n
  | .bool b => .bool b
  | .str s => .str s
  | .nov => .nov
  | .any => .any
  | .nl => .nl
  | .sl rows => .sl rows
  | .ep row off => .ep row off
def renL (dst : Nat) : List D → List D
  | [] => []
  | d :: ds => ren dst d :: renL dst ds
end
def addS (dst : Nat) : Nat → List (List (List D)) → (Nat → D) → (Nat → D)
  | _, [], σ => σ
  | k, _ :: rest, σ => addS dst (k + 1) rest (scrS (rid dst k) σ)
def addM (dst : Nat) : Nat → List (List (List D)) → (Nat → Option Ent) → (Nat → Option Ent)
  | _, [], M => M
  | k, rows :: rest, M => addM dst (k + 1) rest (upd (scrM (rid dst k) M) (rid dst k) (some (.row rows)))
def addB (dst : Nat) (βr : Nat → RowG) : Nat → List (List (List D)) → (Nat → RowG) → (Nat → RowG)
  | _, [], β => β
  | k, _ :: rest, β => addB dst βr (k + 1) rest (upd β (rid dst k) (βr k))

section
variable {B0 : Nat} {X I0 : Nat → Prop} {w0 : World} {n : Nat} {Im : Nat → Prop} {β : Nat → RowG} {σ : Nat → D} {M : Nat → Option Ent} {a : Act} {w : World} {P : Program}

theorem rid_inj {dst k k' : Nat} (h : rid dst k = rid dst k') : k = k' := by unfold rid at h; omega

theorem addB_other {dst : Nat} {βr : Nat → RowG} : ∀ (rs : List (List (List D))) (k : Nat) (β : Nat → RowG) (id : Nat), (∀ j, k ≤ j → j < k + rs.length → id ≠ rid dst j) → addB dst βr k rs β id = β id
  | [], k, β, id, _ => rfl
  | r :: rs, k, β, id, h => by
    simp only [addB]
    rw [addB_other rs (k + 1) _ id (fun j h1 h2 => h j (by omega) (by simp; omega)), upd_ne _ _ (h k (Nat.le_refl _) (by simp))]
theorem addB_at {dst : Nat} {βr : Nat → RowG} : ∀ (rs : List (List (List D))) (k : Nat) (β : Nat → RowG) (j : Nat), k ≤ j → j < k + rs.length → addB dst βr k rs β (rid dst j) = βr j
  | [], k, β, j, h1, h2 => by simp at h2; omega
  | r :: rs, k, β, j, h1, h2 => by
    simp only [addB]
    by_cases e : j = k
    · subst e
      rw [addB_other rs (j + 1) _ _ (fun i h3 _ h4 => by have := rid_inj h4; omega), upd_same]
    · exact addB_at rs (k + 1) _ j (by omega) (by simp at h2; omega)
theorem addM_other {dst : Nat} : ∀ (rs : List (List (List D))) (k : Nat) (M : Nat → Option Ent) (id : Nat), (∀ j, k ≤ j → j < k + rs.length → id ≠ rid dst j) → ((addM dst k rs M id).isSome = (M id).isSome ∧ (addM dst k rs M id).bind Ent.len = (M id).bind Ent.len)
  | [], k, M, id, _ => ⟨rfl, rfl⟩
  | r :: rs, k, M, id, h => by
    simp only [addM]
    obtain ⟨h1, h2⟩ := addM_other rs (k + 1) (upd (scrM (rid dst k) M) (rid dst k) (some (.row r))) id (fun j h1 h2 => h j (by omega) (by simp; omega))
    rw [h1, h2, upd_ne _ _ (h k (Nat.le_refl _) (by simp))]
    cases hM : M id with
    | none => simp [scrM, hM]
    | some e => simp [scrM, hM, Ent.len_scr]
theorem addM_at {dst : Nat} : ∀ (rs : List (List (List D))) (k : Nat) (M : Nat → Option Ent) (j : Nat) (rows : List (List D)), k ≤ j → rs[j - k]? = some rows → (addM dst k rs M (rid dst j)).isSome = true ∧ (addM dst k rs M (rid dst j)).bind Ent.len = some rows.length
  | [], k, M, j, rows, h1, h2 => by simp at h2
  | r :: rs, k, M, j, rows, h1, h2 => by
    simp only [addM]
    by_cases e : j = k
    · subst e
      simp at h2; subst h2
      obtain ⟨h3, h4⟩ := addM_other rs (j + 1) (upd (scrM (rid dst j) M) (rid dst j) (some (.row r))) (rid dst j) (fun i h3 _ h4 => by have := rid_inj h4; omega)
      rw [h3, h4, upd_same]
      exact ⟨rfl, rfl⟩
    · refine addM_at rs (k + 1) _ j rows (by omega) ?_
      have : j - k = (j - (k + 1)) + 1 := by omega
      rw [this] at h2
      simpa using h2

/-- the rows that a call has handed back go into the table -/
theorem StG.addRows {dst : Nat} {βr : Nat → RowG} {B : Nat} (hB : B0 ≤ B) : ∀ (rs : List (List (List D))) (k : Nat) (β : Nat → RowG) (σ : Nat → D) (M : Nat → Option Ent),
    StG B0 X I0 w0 n Im β σ M a w →
    (∀ j rows, rs[j]? = some rows → EntOk w Im β M (βr (k + j)) (.row rows) ∧ ((βr (k + j)).nil = false → B ≤ (βr (k + j)).blk)) →
    (∀ j j', j < rs.length → j' < rs.length → (βr (k + j)).nil = false → (βr (k + j')).nil = false → (βr (k + j)).blk = (βr (k + j')).blk → j = j') →
    (∀ id e, M id = some e → (β id).nil = false → (β id).blk < B ∨ ∀ j, j < rs.length → (βr (k + j)).nil = false → (β id).blk ≠ (βr (k + j)).blk) →
    StG B0 X I0 w0 n Im (addB dst βr k rs β) (addS dst k rs σ) (addM dst k rs M) a w
  | [], k, β, σ, M, h, _, _, _ => h
  | r :: rs, k, β, σ, M, h, h1, h2, h3 => by
    simp only [addB, addS, addM]
    obtain ⟨e1, e2⟩ := h1 0 r (by simp)
    simp only [Nat.add_zero] at e1 e2
    have rowIrr : ∀ {β' : Nat → RowG} {M' : Nat → Option Ent} {g : RowG} {rows : List (List D)}, EntOk w Im β M g (.row rows) → EntOk w Im β' M' g (.row rows) := by
      intro β' M' g rows hh; simpa only [EntOk] using hh
    have hlen : ∀ j, j < rs.length → j + 1 < (r :: rs).length := fun j hj => by simp; omega
    have h0 : 0 < (r :: rs).length := by simp
    have step := h.setEnt (w' := w) (rid dst k) (βr k) (.row r) rfl rfl rfl (Nat.le_refl _) (fun _ _ _ => rfl) (rowIrr e1) (by
      intro hn
      refine .inr ⟨Nat.le_trans hB (e2 hn), ?_⟩
      intro j e' hj hnj _ he
      rcases h3 j e' hj hnj with h4 | h4
      · have := e2 hn; omega
      · exact h4 0 h0 (by simpa using hn) (by simpa using he))
    refine StG.addRows hB rs (k + 1) _ _ _ step ?_ ?_ ?_
    · intro j rows hj
      have := h1 (j + 1) rows (by simpa using hj)
      rw [show k + (j + 1) = k + 1 + j by omega] at this
      exact ⟨rowIrr this.1, this.2⟩
    · intro j j' hj hj' hn hn' he
      have := h2 (j + 1) (j' + 1) (hlen j hj) (hlen j' hj') (by rw [show k + (j + 1) = k + 1 + j by omega]; exact hn) (by rw [show k + (j' + 1) = k + 1 + j' by omega]; exact hn') (by rw [show k + (j + 1) = k + 1 + j by omega, show k + (j' + 1) = k + 1 + j' by omega]; exact he)
      omega
    · intro id e' hid hn
      by_cases hi : id = rid dst k
      · subst hi
        rw [upd_same] at hn ⊢
        right
        intro j hj hnj he
        have := h2 0 (j + 1) h0 (hlen j hj) (by simpa using hn) (by rw [show k + (j + 1) = k + 1 + j by omega]; exact hnj) (by rw [show k + (j + 1) = k + 1 + j by omega]; simpa using he)
        omega
      · rw [upd_ne _ _ hi] at hn ⊢
        rw [upd_ne _ _ hi] at hid
        simp only [scrM, Option.map_eq_some_iff] at hid
        obtain ⟨e0, he0, rfl⟩ := hid
        rcases h3 id e0 he0 hn with h4 | h4
        · exact .inl h4
        · right
          intro j hj hnj
          have := h4 (j + 1) (hlen j hj)
          rw [show k + (j + 1) = k + 1 + j by omega] at this
          exact this hnj

mutual
theorem Rv_ren {dst : Nat} {βr : Nat → RowG} {rs : List (List (List D))} : ∀ (d : D) (v : Value), Rv w Im βr (tabOf rs) d v → (∀ id i off, d ≠ .ptr id i off) → noPtr d = true → Rv w Im (addB dst βr 0 rs β) (addM dst 0 rs M) (ren dst d) v
  | .int .., _, hv, _, _ | .bool _, _, hv, _, _ | .str _, _, hv, _, _ | .nov, _, hv, _, _ | .any, _, hv, _, _ | .nl, _, hv, _, _ | .sl _, _, hv, _, _ | .ep .., _, hv, _, _ => by
    simp only [Rv, ren] at hv ⊢
    exact hv
  | .ptr .., _, _, h, _ => absurd rfl (h _ _ _)
  | .fs k, v, hv, _, _ => by
    simp only [Rv, ren] at hv ⊢
    obtain ⟨m, h1, rfl⟩ := hv
    cases hk : rs[k]? with
    | none => simp [tabOf, hk] at h1
    | some rows =>
      simp [tabOf, hk, Ent.len] at h1
      subst h1
      have hlt : k < rs.length := (List.getElem?_eq_some_iff.1 hk).1
      refine ⟨rows.length, (addM_at rs 0 M k rows (Nat.zero_le _) (by simpa using hk)).2, ?_⟩
      rw [addB_at rs 0 β k (Nat.zero_le _) (by simpa using hlt)]
  | .agg cs, v, hv, _, hp => by
    simp only [Rv, ren, noPtr] at hv hp ⊢
    obtain ⟨x, rfl, hv⟩ := hv
    exact ⟨x, rfl, RvL_ren cs x hv hp⟩
  | .tup cs, v, hv, _, hp => by
    simp only [Rv, ren, noPtr] at hv hp ⊢
    obtain ⟨x, rfl, hv⟩ := hv
    exact ⟨x, rfl, RvL_ren cs x hv hp⟩
theorem RvL_ren {dst : Nat} {βr : Nat → RowG} {rs : List (List (List D))} : ∀ (ds : List D) (vs : List Value), RvL w Im βr (tabOf rs) ds vs → noPtrL ds = true → RvL w Im (addB dst βr 0 rs β) (addM dst 0 rs M) (renL dst ds) vs
  | [], _, hv, _ => by simpa [RvL, renL] using hv
  | d :: ds, vs, hv, hp => by
    simp only [RvL, renL, noPtrL, Bool.and_eq_true] at hv hp ⊢
    obtain ⟨v, r, rfl, h1, h2⟩ := hv
    exact ⟨v, r, rfl, Rv_ren d v h1 (by rintro id i off rfl; simp [noPtr] at hp) hp.1, RvL_ren ds r h2 hp.2⟩
end

/-- AT A CALL: the contract, and what the caller knows behind it. -/
theorem call_sound (h : StG B0 X I0 w0 n Im β σ M a w) {f : FuncId} {xs : List D} {vs : List Value} {r : D} {rs : List (List (List D))} (hx : RvL w Im β M xs vs)
    (hc : ACall P f (viewL M xs) r rs) (hp : noPtr r = true) (hs : noFsL xs = true ∨ (noSl r = true ∧ ∀ rows ∈ rs, FlatRows rows)) (dst : Nat) :
    Calls P f vs.toArray w fun e w' => ∃ v Im' β', e = .returned v ∧ StG B0 X I0 w0 n Im' β' (addS dst 0 rs σ) (addM dst 0 rs M) a w' ∧ Rv w' Im' β' (addM dst 0 rs M) (ren dst r) v := by
  have main : ∀ (e : Ending) (w' : World) (v : Value) (Im' : Nat → Prop) (βr : Nat → RowG), e = .returned v → Below w.heap.size w w' → (∀ b, Im' b → Im b ∨ w.heap.size ≤ b) → (∀ b, Im' b → b < w'.heap.size) → Rv w' Im' βr (tabOf rs) r v →
      (∀ k rows, rs[k]? = some rows → EntOk w' Im' βr (tabOf rs) (βr k) (.row rows) ∧ ((βr k).nil = false → w.heap.size ≤ (βr k).blk)) →
      (∀ k k', k < rs.length → k' < rs.length → (βr k).nil = false → (βr k').nil = false → (βr k).blk = (βr k').blk → k = k') →
      ∃ v Im' β', e = .returned v ∧ StG B0 X I0 w0 n Im' β' (addS dst 0 rs σ) (addM dst 0 rs M) a w' ∧ Rv w' Im' β' (addM dst 0 rs M) (ren dst r) v := by
    intro e w' v Im' βr he hb h1 h2 h3 h4 h5
    -- the caller's own immutable blocks and the callee's
    let Im2 : Nat → Prop := fun b => Im b ∨ Im' b
    have hcell : ∀ b o, Im' b → w'.cell? ⟨b, o, none⟩ = w'.cell? ⟨b, o, none⟩ := fun _ _ _ => rfl
    have hg := h.grow hb Im2 (fun _ hi => .inl hi) (fun b hi => hi.elim .inl (fun hi => h1 b hi)) (fun b hi => hi.elim (fun hi => Nat.lt_of_lt_of_le (h.im b hi) hb.size) (h2 b))
    have hrow : ∀ k rows, rs[k]? = some rows → EntOk w' Im2 β M (βr k) (.row rows) := by
      intro k rows hk
      obtain ⟨h6, h7⟩ := h4 k rows hk
      simp only [EntOk] at h6 ⊢
      refine h6.imp id ?_
      rintro ⟨g1, g2, g3, g4, cur, ty, g5, g6, g7, g8⟩
      refine ⟨g1, ?_, g3, g4, cur, ty, g5, g6, g7, RcRowsL_mono (fun _ _ _ => rfl) (fun _ hi => .inr hi) _ _ _ g8⟩
      rintro (hi | hi)
      · have := h.im _ hi; have := h7 g1; omega
      · exact g2 hi
    have hst := StG.addRows (dst := dst) (βr := βr) (B := w.heap.size) h.base rs 0 β σ M hg
      (fun j rows hj => by simpa using ⟨hrow j rows hj, (h4 j rows hj).2⟩)
      (fun j j' hj hj' hn hn' he => h5 j j' hj hj' (by simpa using hn) (by simpa using hn') (by simpa using he))
      (fun id e' hid hn => .inl (h.blk_lt hid hn))
    refine ⟨v, Im2, _, he, hst, ?_⟩
    refine Rv_ren r v (Rv_mono (fun _ _ _ => rfl) (fun _ hi => .inr hi) (Agree.refl _ _) _ _ h3) ?_ hp
    rintro id i off rfl
    simp [noPtr] at hp
  rcases hs with hs | ⟨hs1, hs2⟩
  · refine (hc.2 w vs Im h.im (RcL_viewNo xs vs hs hx)).mono ?_
    rintro e w' ⟨v, he, hb, Im', βr, h1, h2, h3, h4, h5⟩
    exact main e w' v Im' βr he hb h1 h2 h3 h4 h5
  · refine (hc.2 w vs (fun b => b < w.heap.size) (fun _ hb => hb) (RcL_view h xs vs hx)).mono ?_
    rintro e w' ⟨v, he, hb, Im', βr, h1, h2, h3, h4, h5⟩
    refine main e w' v (fun b => w.heap.size ≤ b ∧ Im' b) βr he hb (fun b hi => .inr hi.1) (fun b hi => h2 b hi.2) (Rv_noSl r v hs1 h3) ?_ h5
    intro k rows hk
    obtain ⟨h6, h7⟩ := h4 k rows hk
    refine ⟨?_, h7⟩
    simp only [EntOk] at h6 ⊢
    refine h6.imp id ?_
    rintro ⟨g1, g2, g3, g4, cur, ty, g5, g6, g7, g8⟩
    exact ⟨g1, fun hi => g2 hi.2, g3, g4, cur, ty, g5, g6, g7, RcRowsL_scal _ _ _ (hs2 rows (List.mem_of_getElem? hk)) g8⟩
end
end Go.Proofs.Ytelolknpcmjdeaa
