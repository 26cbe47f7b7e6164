/- The state of the evaluator (slots, table of the call's own rows) and what it means that a frame and a world stand for it. -/
import Derived.Test.YtelolknpcmjdeaaMa
namespace Go.Proofs.Ytelolknpcmjdeaa
open Go.RowKit

/-- Where an entry of the table lies. -/
structure RowG where
  blk : Nat
  cap : Nat
  sz : Nat
  nil : Bool
def RowG.val (g : RowG) (n : Nat) : Value := if g.nil then .slice none 0 0 else .slice (some ⟨g.blk, 0, none⟩) n g.cap

/-- An entry of the table: the rows of a slice of the call's own, or the cells of a variable. -/
inductive Ent where
  | row (rows : List (List D))
  | box (cells : List D)
def Ent.len : Ent → Option Nat
  | .row rows => some rows.length
  | .box _ => none

mutual
def Rv (w : World) (Im : Nat → Prop) (β : Nat → RowG) (M : Nat → Option Ent) : D → Value → Prop
  | .agg cs, v => ∃ a : List Value, v = .agg a.toArray ∧ RvL w Im β M cs a
  | .tup cs, v => ∃ a : List Value, v = .tuple a.toArray ∧ RvL w Im β M cs a
  | .ptr id i off, v => (M id).isSome = true ∧ (β id).nil = false ∧ v = .pointer (some ⟨(β id).blk, i * (β id).sz + off, none⟩)
  | .fs id, v => ∃ n, (M id).bind Ent.len = some n ∧ v = (β id).val n
  | .int k n, v => Rc w Im (.int k n) v
  | .bool b, v => Rc w Im (.bool b) v
  | .str s, v => Rc w Im (.str s) v
  | .nov, v => Rc w Im .nov v
  | .any, v => Rc w Im .any v
  | .nl, v => Rc w Im .nl v
  | .sl rows, v => Rc w Im (.sl rows) v
  | .ep row off, v => Rc w Im (.ep row off) v
def RvL (w : World) (Im : Nat → Prop) (β : Nat → RowG) (M : Nat → Option Ent) : List D → List Value → Prop
  | [], vs => vs = []
  | d :: ds, vs => ∃ v r, vs = v :: r ∧ Rv w Im β M d v ∧ RvL w Im β M ds r
end

/-- rows of closed cells, as they lie in a list of values -/
def RcRowsL (w : World) (Im : Nat → Prop) : List (List D) → Nat → List Value → Prop
  | [], _, _ => True
  | r :: rs, s, l => ∃ c rest, l = c ++ rest ∧ c.length = s ∧ RcL w Im r c ∧ RcRowsL w Im rs s rest

def EntOk (w : World) (Im : Nat → Prop) (β : Nat → RowG) (M : Nat → Option Ent) (g : RowG) : Ent → Prop
  | .row rows => (g.nil = true ∧ rows = []) ∨ (g.nil = false ∧ ¬ Im g.blk ∧ rows.length ≤ g.cap ∧ (g.cap ≤ maxLen ∧ (rows = [] → g.cap = 0)) ∧ ∃ cur e, w.heap[g.blk]? = some (.cells cur e (0, 0)) ∧ cur.size = g.cap * g.sz ∧ (∀ v ∈ cur.toList, v.oneCell' = true) ∧ RcRowsL w Im rows g.sz cur.toList)
  | .box cells => g.nil = false ∧ ¬ Im g.blk ∧ ∃ cur e, w.heap[g.blk]? = some (.cells cur e (0, 0)) ∧ (∀ v ∈ cur.toList, v.oneCell' = true) ∧ RvL w Im β M cells cur.toList

/-- What the call may have done to the world: below B0 nothing but X has turned. -/
structure Fr (B0 : Nat) (X : Nat → Prop) (w0 w : World) : Prop where
  os : w.os = w0.os
  tape : w.tape = w0.tape
  output : w.output = w0.output
  size : w0.heap.size ≤ w.heap.size
  block : ∀ k, k < B0 → ¬ X k → w.heap[k]? = w0.heap[k]?

structure StG (B0 : Nat) (X I0 : Nat → Prop) (w0 : World) (n : Nat) (Im : Nat → Prop) (β : Nat → RowG) (σ : Nat → D) (M : Nat → Option Ent) (a : Act) (w : World) : Prop where
  defers : a.defers = []
  size : a.tmps.size = n
  slots : ∀ i, i < n → Rv w Im β M (σ i) (a.tmps.getD i undef)
  hi : ∀ i, n ≤ i → σ i = .nov ∨ σ i = .any
  im : ∀ b, Im b → b < w.heap.size
  tab : ∀ id e, M id = some e → EntOk w Im β M (β id) e
  own : ∀ id e, M id = some e → (β id).nil = false → B0 ≤ (β id).blk ∨ X (β id).blk
  inj : ∀ id id', (M id).isSome = true → (M id').isSome = true → (β id).nil = false → (β id').nil = false → (β id).blk = (β id').blk → id = id'
  base : B0 ≤ w.heap.size
  fr : Fr B0 X w0 w
  imo : ∀ b, Im b → I0 b ∨ B0 ≤ b ∨ X b

def St (B0 : Nat) (X I0 : Nat → Prop) (w0 : World) (n : Nat) (σ : Nat → D) (M : Nat → Option Ent) (a : Act) (w : World) : Prop := ∃ Im β, StG B0 X I0 w0 n Im β σ M a w

section
variable {w w' : World} {Im Im' : Nat → Prop} {β β' : Nat → RowG} {M M' : Nat → Option Ent}

mutual
theorem Rv_of_Rc : ∀ (d : D) (v : Value), Rc w Im d v → Rv w Im β M d v
  | .int .., _, h | .bool _, _, h | .str _, _, h | .nov, _, h | .any, _, h | .nl, _, h | .sl _, _, h | .ep .., _, h => by
    simp only [Rv]; exact h
  | .ptr .., _, h | .fs _, _, h => by simp [Rc] at h
  | .agg cs, v, h => by
    simp only [Rc] at h; obtain ⟨a, rfl, h⟩ := h
    simp only [Rv]; exact ⟨a, rfl, RvL_of_RcL cs a h⟩
  | .tup cs, v, h => by
    simp only [Rc] at h; obtain ⟨a, rfl, h⟩ := h
    simp only [Rv]; exact ⟨a, rfl, RvL_of_RcL cs a h⟩
theorem RvL_of_RcL : ∀ (ds : List D) (vs : List Value), RcL w Im ds vs → RvL w Im β M ds vs
  | [], _, h => by simpa [RvL, RcL] using h
  | d :: ds, vs, h => by
    simp only [RcL] at h
    obtain ⟨v, r, rfl, h1, h2⟩ := h
    simp only [RvL]
    exact ⟨v, r, rfl, Rv_of_Rc d v h1, RvL_of_RcL ds r h2⟩
end

/-- ids agree: where M had an entry, M' has one of the same length at the same place -/
def Agree (β β' : Nat → RowG) (M M' : Nat → Option Ent) : Prop := ∀ id, (M id).isSome = true → β' id = β id ∧ (M' id).isSome = true ∧ ((M' id).bind Ent.len = (M id).bind Ent.len)

theorem Agree.refl (β : Nat → RowG) (M : Nat → Option Ent) : Agree β β M M := fun _ h => ⟨rfl, h, rfl⟩

theorem bind_len_isSome {M : Nat → Option Ent} {id n : Nat} (h : (M id).bind Ent.len = some n) : (M id).isSome = true := by
  cases hM : M id with
  | none => rw [hM] at h; simp at h
  | some e => rfl

mutual
theorem Rv_mono (hc : ∀ b o, Im b → w'.cell? ⟨b, o, none⟩ = w.cell? ⟨b, o, none⟩) (hi : ∀ b, Im b → Im' b) (ha : Agree β β' M M') : ∀ (d : D) (v : Value), Rv w Im β M d v → Rv w' Im' β' M' d v
  | .int .., _, h | .bool _, _, h | .str _, _, h | .nov, _, h | .any, _, h | .nl, _, h | .sl _, _, h | .ep .., _, h => by
    simp only [Rv] at h ⊢
    exact Rc_mono hc hi _ _ h
  | .ptr id i off, v, h => by
    simp only [Rv] at h ⊢
    obtain ⟨h1, h2, rfl⟩ := h
    obtain ⟨e1, e2, _⟩ := ha id h1
    rw [e1]
    exact ⟨e2, h2, rfl⟩
  | .fs id, v, h => by
    simp only [Rv] at h ⊢
    obtain ⟨n, h1, rfl⟩ := h
    obtain ⟨e1, _, e3⟩ := ha id (bind_len_isSome h1)
    rw [e1, e3]
    exact ⟨n, h1, rfl⟩
  | .agg cs, v, h => by
    simp only [Rv] at h ⊢
    obtain ⟨a, rfl, h⟩ := h
    exact ⟨a, rfl, RvL_mono hc hi ha cs a h⟩
  | .tup cs, v, h => by
    simp only [Rv] at h ⊢
    obtain ⟨a, rfl, h⟩ := h
    exact ⟨a, rfl, RvL_mono hc hi ha cs a h⟩
theorem RvL_mono (hc : ∀ b o, Im b → w'.cell? ⟨b, o, none⟩ = w.cell? ⟨b, o, none⟩) (hi : ∀ b, Im b → Im' b) (ha : Agree β β' M M') : ∀ (ds : List D) (vs : List Value), RvL w Im β M ds vs → RvL w' Im' β' M' ds vs
  | [], _, h => by simpa [RvL] using h
  | d :: ds, vs, h => by
    simp only [RvL] at h ⊢
    obtain ⟨v, r, rfl, h1, h2⟩ := h
    exact ⟨v, r, rfl, Rv_mono hc hi ha d v h1, RvL_mono hc hi ha ds r h2⟩
end

theorem RcRowsL_mono (hc : ∀ b o, Im b → w'.cell? ⟨b, o, none⟩ = w.cell? ⟨b, o, none⟩) (hi : ∀ b, Im b → Im' b) : ∀ (rs : List (List D)) (s : Nat) (l : List Value), RcRowsL w Im rs s l → RcRowsL w' Im' rs s l
  | [], _, _, _ => by simp [RcRowsL]
  | r :: rs, s, l, h => by
    simp only [RcRowsL] at h ⊢
    obtain ⟨c, rest, rfl, h1, h2, h3⟩ := h
    exact ⟨c, rest, rfl, h1, RcL_mono hc hi r c h2, RcRowsL_mono hc hi rs s rest h3⟩

/-- An entry is as it was where its block is. -/
theorem EntOk_mono {g : RowG} (hc : ∀ b o, Im b → w'.cell? ⟨b, o, none⟩ = w.cell? ⟨b, o, none⟩) (hi : ∀ b, Im b → Im' b) (ha : Agree β β' M M') (hn : g.nil = false → ¬ Im' g.blk) (hb : g.nil = false → w'.heap[g.blk]? = w.heap[g.blk]?) :
    ∀ (e : Ent), EntOk w Im β M g e → EntOk w' Im' β' M' g e
  | .row rows, h => by
    simp only [EntOk] at h ⊢
    refine h.imp id ?_
    rintro ⟨h1, h2, h3, h4, cur, e, h5, h6, h7, h8⟩
    exact ⟨h1, hn h1, h3, h4, cur, e, by rw [hb h1]; exact h5, h6, h7, RcRowsL_mono hc hi _ _ _ h8⟩
  | .box cells, h => by
    simp only [EntOk] at h ⊢
    obtain ⟨h1, h2, cur, e, h3, h4, h5⟩ := h
    exact ⟨h1, hn h1, cur, e, by rw [hb h1]; exact h3, h4, RvL_mono hc hi ha _ _ h5⟩

mutual
/-- every mention of the entry 'id' is struck -/
def scr (id : Nat) : D → D
  | .ptr j i off => if j = id then .any else .ptr j i off
  | .fs j => if j = id then .any else .fs j
  | .agg cs => .agg (scrL id cs)
  | .tup cs => .tup (scrL id cs)
  | .int k n => .int k n
  | .bool b => .bool b
  | .str s => .str s
  | .nov => .nov
  | .any => .any
  | .nl => .nl
  | .sl rows => .sl rows
  | .ep row off => .ep row off
def scrL (id : Nat) : List D → List D
  | [] => []
  | d :: ds => scr id d :: scrL id ds
end

/-- ids other than x agree -/
def AgreeBut (x : Nat) (β β' : Nat → RowG) (M M' : Nat → Option Ent) : Prop := ∀ id, id ≠ x → (M id).isSome = true → β' id = β id ∧ (M' id).isSome = true ∧ ((M' id).bind Ent.len = (M id).bind Ent.len)
theorem Agree.but {x : Nat} (h : Agree β β' M M') : AgreeBut x β β' M M' := fun id _ hs => h id hs

mutual
theorem Rv_scr {x : Nat} (hc : ∀ b o, Im b → w'.cell? ⟨b, o, none⟩ = w.cell? ⟨b, o, none⟩) (hi : ∀ b, Im b → Im' b) (ha : AgreeBut x β β' M M') : ∀ (d : D) (v : Value), Rv w Im β M d v → Rv w' Im' β' M' (scr x d) v
  | .int .., _, h | .bool _, _, h | .str _, _, h | .nov, _, h | .any, _, h | .nl, _, h | .sl _, _, h | .ep .., _, h => by
    simp only [Rv, scr] at h ⊢
    exact Rc_mono hc hi _ _ h
  | .ptr id i off, v, h => by
    by_cases e : id = x
    · simp [scr, e, Rv, Rc]
    · simp only [Rv, scr, if_neg e] at h ⊢
      obtain ⟨h1, h2, rfl⟩ := h
      obtain ⟨e1, e2, _⟩ := ha id e h1
      rw [e1]
      exact ⟨e2, h2, rfl⟩
  | .fs id, v, h => by
    by_cases e : id = x
    · simp [scr, e, Rv, Rc]
    · simp only [Rv, scr, if_neg e] at h ⊢
      obtain ⟨n, h1, rfl⟩ := h
      obtain ⟨e1, _, e3⟩ := ha id e (bind_len_isSome h1)
      rw [e1, e3]
      exact ⟨n, h1, rfl⟩
  | .agg cs, v, h => by
    simp only [Rv, scr] at h ⊢
    obtain ⟨a, rfl, h⟩ := h
    exact ⟨a, rfl, RvL_scr hc hi ha cs a h⟩
  | .tup cs, v, h => by
    simp only [Rv, scr] at h ⊢
    obtain ⟨a, rfl, h⟩ := h
    exact ⟨a, rfl, RvL_scr hc hi ha cs a h⟩
theorem RvL_scr {x : Nat} (hc : ∀ b o, Im b → w'.cell? ⟨b, o, none⟩ = w.cell? ⟨b, o, none⟩) (hi : ∀ b, Im b → Im' b) (ha : AgreeBut x β β' M M') : ∀ (ds : List D) (vs : List Value), RvL w Im β M ds vs → RvL w' Im' β' M' (scrL x ds) vs
  | [], _, h => by simpa [RvL, scrL] using h
  | d :: ds, vs, h => by
    simp only [RvL, scrL] at h ⊢
    obtain ⟨v, r, rfl, h1, h2⟩ := h
    exact ⟨v, r, rfl, Rv_scr hc hi ha d v h1, RvL_scr hc hi ha ds r h2⟩
end

def Ent.scr (x : Nat) : Ent → Ent
  | .row rows => .row rows
  | .box cells => .box (scrL x cells)
theorem Ent.len_scr (x : Nat) (e : Ent) : (e.scr x).len = e.len := by cases e <;> rfl

theorem EntOk_scr {g : RowG} {x : Nat} (hc : ∀ b o, Im b → w'.cell? ⟨b, o, none⟩ = w.cell? ⟨b, o, none⟩) (hi : ∀ b, Im b → Im' b) (ha : AgreeBut x β β' M M') (hn : g.nil = false → ¬ Im' g.blk) (hb : g.nil = false → w'.heap[g.blk]? = w.heap[g.blk]?) :
    ∀ (e : Ent), EntOk w Im β M g e → EntOk w' Im' β' M' g (e.scr x)
  | .row rows, h => by
    simp only [EntOk, Ent.scr] at h ⊢
    refine h.imp id ?_
    rintro ⟨h1, h2, h3, h4, cur, e, h5, h6, h7, h8⟩
    exact ⟨h1, hn h1, h3, h4, cur, e, by rw [hb h1]; exact h5, h6, h7, RcRowsL_mono hc hi _ _ _ h8⟩
  | .box cells, h => by
    simp only [EntOk, Ent.scr] at h ⊢
    obtain ⟨h1, h2, cur, e, h3, h4, h5⟩ := h
    exact ⟨h1, hn h1, cur, e, by rw [hb h1]; exact h3, h4, RvL_scr hc hi ha _ _ h5⟩

def upd {α : Type} (f : Nat → α) (i : Nat) (x : α) : Nat → α := fun j => if j = i then x else f j
theorem upd_same {α : Type} (f : Nat → α) (i : Nat) (x : α) : upd f i x i = x := by simp [upd]
theorem upd_ne {α : Type} (f : Nat → α) {i j : Nat} (x : α) (h : j ≠ i) : upd f i x j = f j := by simp [upd, h]

theorem RvL_length : ∀ (ds : List D) (vs : List Value), RvL w Im β M ds vs → vs.length = ds.length
  | [], _, h => by simp [RvL] at h; simp [h]
  | d :: ds, vs, h => by simp only [RvL] at h; obtain ⟨v, r, rfl, _, h⟩ := h; simp [RvL_length ds r h]
theorem RvL_get : ∀ (ds : List D) (vs : List Value) (j : Nat) (d : D), RvL w Im β M ds vs → ds[j]? = some d → ∃ v, vs[j]? = some v ∧ Rv w Im β M d v
  | [], _, _, _, _, hj => by simp at hj
  | x :: ds, vs, 0, d, h, hj => by
    simp only [RvL] at h; obtain ⟨v, r, rfl, h1, _⟩ := h
    simp at hj; subst hj; exact ⟨v, by simp, h1⟩
  | x :: ds, vs, j + 1, d, h, hj => by
    simp only [RvL] at h; obtain ⟨v, r, rfl, _, h2⟩ := h
    obtain ⟨u, h3, h4⟩ := RvL_get ds r j d h2 (by simpa using hj)
    exact ⟨u, by simpa using h3, h4⟩
theorem RvL_take : ∀ (k : Nat) (ds : List D) (vs : List Value), RvL w Im β M ds vs → RvL w Im β M (ds.take k) (vs.take k)
  | 0, _, _, _ => by simp [RvL]
  | k + 1, [], vs, h => by simp [RvL] at h; simp [RvL, h]
  | k + 1, d :: ds, vs, h => by
    simp only [RvL] at h; obtain ⟨v, r, rfl, h1, h2⟩ := h
    simp only [List.take_succ_cons, RvL]; exact ⟨v, _, rfl, h1, RvL_take k ds r h2⟩
theorem RvL_drop : ∀ (k : Nat) (ds : List D) (vs : List Value), RvL w Im β M ds vs → RvL w Im β M (ds.drop k) (vs.drop k)
  | 0, _, _, h => by simpa using h
  | k + 1, [], vs, h => by simp [RvL] at h; simp [RvL, h]
  | k + 1, d :: ds, vs, h => by
    simp only [RvL] at h; obtain ⟨v, r, rfl, h1, h2⟩ := h
    simpa using RvL_drop k ds r h2
theorem RvL_append : ∀ (ds es : List D) (vs us : List Value), RvL w Im β M ds vs → RvL w Im β M es us → RvL w Im β M (ds ++ es) (vs ++ us)
  | [], es, vs, us, h, h' => by simp [RvL] at h; subst h; simpa using h'
  | d :: ds, es, vs, us, h, h' => by
    simp only [RvL] at h
    obtain ⟨v, r, rfl, ha, h⟩ := h
    simp only [List.cons_append, RvL]
    exact ⟨v, r ++ us, rfl, ha, RvL_append ds es r us h h'⟩
end

section
variable {B0 : Nat} {X I0 : Nat → Prop} {w0 : World} {n : Nat} {Im : Nat → Prop} {β : Nat → RowG} {σ : Nat → D} {M : Nat → Option Ent} {a : Act} {w : World}

theorem Fr.refl (B0 : Nat) (X : Nat → Prop) (w : World) : Fr B0 X w w := ⟨rfl, rfl, rfl, Nat.le_refl _, fun _ _ _ => rfl⟩
theorem Fr.trans {w1 w2 w3 : World} (h : Fr B0 X w1 w2) (k : Fr B0 X w2 w3) : Fr B0 X w1 w3 :=
  ⟨k.os.trans h.os, k.tape.trans h.tape, k.output.trans h.output, Nat.le_trans h.size k.size, fun i hi hx => (k.block i hi hx).trans (h.block i hi hx)⟩
theorem Fr.of_below {w1 w2 : World} {B : Nat} (h : Below B w1 w2) (hB : B0 ≤ B) : Fr B0 X w1 w2 := ⟨h.os, h.tape, h.output, h.size, fun k hk _ => h.block k (by omega)⟩

/-- A value is laid into a slot. -/
theorem StG.put (h : StG B0 X I0 w0 n Im β σ M a w) {t : Nat} (ht : t < n) {d : D} {v : Value} (hv : Rv w Im β M d v) : StG B0 X I0 w0 n Im β (upd σ t d) M (a.put (some t) v) w := by
  have hs := h.size
  refine { h with size := ?_, slots := ?_, defers := h.defers, hi := fun i hi => by rw [upd_ne _ _ (by omega)]; exact h.hi i hi }
  · simp [Act.put, hs]
  · intro i hi
    simp only [Act.put]
    by_cases e : i = t
    · subst e
      rw [upd_same]
      have : (a.tmps.setIfInBounds i v).getD i undef = v := by simp [hs, hi]
      rw [this]; exact hv
    · rw [upd_ne _ _ e]
      have : (a.tmps.setIfInBounds t v).getD i undef = a.tmps.getD i undef := by
        simp [Array.getElem?_setIfInBounds_ne (Ne.symm e)]
      rw [this]; exact h.slots i hi

/-- The world goes on (new blocks, draws, a call): no block that was there has turned. -/
theorem StG.grow (h : StG B0 X I0 w0 n Im β σ M a w) {w' : World} (hb : Below w.heap.size w w') (Im' : Nat → Prop) (hi : ∀ b, Im b → Im' b) (hn : ∀ b, Im' b → Im b ∨ w.heap.size ≤ b) (hl : ∀ b, Im' b → b < w'.heap.size) : StG B0 X I0 w0 n Im' β σ M a w' := by
  have hc : ∀ b o, Im b → w'.cell? ⟨b, o, none⟩ = w.cell? ⟨b, o, none⟩ := fun b o hib => hb.cell (p := ⟨b, o, none⟩) (h.im b hib)
  have hblk : ∀ id e, M id = some e → (β id).nil = false → (β id).blk < w.heap.size := by
    intro id e he hnil
    have := h.tab id e he
    cases e with
    | row rows =>
      simp only [EntOk] at this
      rcases this with ⟨h1, _⟩ | ⟨_, _, _, _, cur, e, h5, _⟩
      · rw [hnil] at h1; cases h1
      · exact (Array.getElem?_eq_some_iff.1 h5).1
    | box cells =>
      simp only [EntOk] at this
      obtain ⟨_, _, cur, e, h5, _⟩ := this
      exact (Array.getElem?_eq_some_iff.1 h5).1
  have hnim : ∀ id e, M id = some e → (β id).nil = false → ¬ Im (β id).blk := by
    intro id e he hnil
    have := h.tab id e he
    cases e with
    | row rows =>
      simp only [EntOk] at this
      rcases this with ⟨h1, _⟩ | ⟨_, h2, _⟩
      · rw [hnil] at h1; cases h1
      · exact h2
    | box cells => simp only [EntOk] at this; exact this.2.1
  refine { h with slots := ?_, im := hl, tab := ?_, base := Nat.le_trans h.base hb.size, fr := h.fr.trans (.of_below hb h.base), imo := fun b hb' => (hn b hb').elim (h.imo b) (fun hle => .inr (.inl (Nat.le_trans h.base hle))) }
  · exact fun i hi' => Rv_mono hc hi (Agree.refl _ _) _ _ (h.slots i hi')
  · intro id e he
    refine EntOk_mono hc hi (Agree.refl _ _) (fun hnil hx => ?_) (fun hnil => hb.block _ (hblk id e he hnil)) e (h.tab id e he)
    rcases hn _ hx with h1 | h1
    · exact hnim id e he hnil h1
    · have := hblk id e he hnil; omega

theorem StG.blk_lt (h : StG B0 X I0 w0 n Im β σ M a w) {id : Nat} {e : Ent} (he : M id = some e) (hnil : (β id).nil = false) : (β id).blk < w.heap.size := by
  have := h.tab id e he
  cases e with
  | row rows =>
    simp only [EntOk] at this
    rcases this with ⟨h1, _⟩ | ⟨_, _, _, _, cur, e, h5, _⟩
    · rw [hnil] at h1; cases h1
    · exact (Array.getElem?_eq_some_iff.1 h5).1
  | box cells =>
    simp only [EntOk] at this
    obtain ⟨_, _, cur, e, h5, _⟩ := this
    exact (Array.getElem?_eq_some_iff.1 h5).1
theorem StG.not_im (h : StG B0 X I0 w0 n Im β σ M a w) {id : Nat} {e : Ent} (he : M id = some e) (hnil : (β id).nil = false) : ¬ Im (β id).blk := by
  have := h.tab id e he
  cases e with
  | row rows =>
    simp only [EntOk] at this
    rcases this with ⟨h1, _⟩ | ⟨_, h2, _⟩
    · rw [hnil] at h1; cases h1
    · exact h2
  | box cells => simp only [EntOk] at this; exact this.2.1

theorem StG.drew (h : StG B0 X I0 w0 n Im β σ M a w) : StG B0 X I0 w0 n Im β σ M a { w with drawn := w.drawn + 1 } :=
  h.grow (w' := { w with drawn := w.drawn + 1 }) ⟨rfl, rfl, rfl, Nat.le_refl _, fun _ _ => rfl⟩ Im (fun _ h => h) (fun _ h => .inl h) h.im
end
end Go.Proofs.Ytelolknpcmjdeaa
