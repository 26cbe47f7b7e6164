/- The abstract values of the evaluator and what it means that a value of the machine stands for one; nothing here names the program. -/
import Derived.WalkKit
import Derived.KernelRfl
import Derived.Laws.CopyRow
import Derived.Laws.OwnMore
import Derived.Orders
namespace Go.Proofs.Ytelolknpcmjdeaa
open Go.RowKit

/-- Abstract values. 'sl': a slice that is only read; 'fs': a slice of the call's own, its rows lie in the table; 'ptr': an address in a row of the table; 'ep': an address in a row that is only read; 'nov': the model's own undef; 'any': whatever; 'nl': the nil slice. -/
inductive D where
  | int (k : IntKind) (n : Int)
  | bool (b : Bool)
  | str (s : List UInt8)
  | nov
  | any
  | nl
  | agg (cs : List D)
  | tup (cs : List D)
  | ptr (id i off : Nat)
  | fs (id : Nat)
  | sl (rows : List (List D))
  | ep (row : List D) (off : Nat)
instance : Inhabited D := ⟨.any⟩

abbrev Rows' := List (List D)

mutual
/-- v stands for the closed value d in the world w; Im: the blocks that nobody writes. -/
def Rc (w : World) (Im : Nat → Prop) : D → Value → Prop
  | .int k n, v => v = .int k n
  | .bool b, v => v = .bool b
  | .str s, v => v = .string ⟨s.toArray⟩
  | .nov, v => v = undef
  | .any, _ => True
  | .nl, v => v = .slice none 0 0
  | .agg cs, v => ∃ a : List Value, v = .agg a.toArray ∧ RcL w Im cs a
  | .tup cs, v => ∃ a : List Value, v = .tuple a.toArray ∧ RcL w Im cs a
  | .ptr .., _ => False
  | .fs _, _ => False
  | .sl rows, v => ∃ a cap, v = .slice a rows.length cap ∧ rows.length ≤ cap ∧ (rows = [] ∨ ∃ b o s, a = some ⟨b, o, none⟩ ∧ Im b ∧ RcRows w Im rows s b o)
  | .ep row off, v => ∃ b o, v = .pointer (some ⟨b, o + off, none⟩) ∧ Im b ∧ RcRow w Im row b o
def RcL (w : World) (Im : Nat → Prop) : List D → List Value → Prop
  | [], vs => vs = []
  | d :: ds, vs => ∃ v r, vs = v :: r ∧ Rc w Im d v ∧ RcL w Im ds r
def RcRow (w : World) (Im : Nat → Prop) : List D → Nat → Nat → Prop
  | [], _, _ => True
  | d :: ds, b, o => (∃ c, w.cell? ⟨b, o, none⟩ = some c ∧ c.oneCell' = true ∧ Rc w Im d c) ∧ RcRow w Im ds b (o + 1)
def RcRows (w : World) (Im : Nat → Prop) : List (List D) → Nat → Nat → Nat → Prop
  | [], _, _, _ => True
  | r :: rs, s, b, o => r.length = s ∧ RcRow w Im r b o ∧ RcRows w Im rs s b (o + s)
end

section
variable {w w' : World} {Im Im' : Nat → Prop}
mutual
theorem Rc_mono (hc : ∀ b o, Im b → w'.cell? ⟨b, o, none⟩ = w.cell? ⟨b, o, none⟩) (hi : ∀ b, Im b → Im' b) : ∀ (d : D) (v : Value), Rc w Im d v → Rc w' Im' d v
  | .int .., _, h | .bool _, _, h | .str _, _, h | .nov, _, h | .nl, _, h => by simpa [Rc] using h
  | .any, _, _ => by simp [Rc]
  | .ptr .., _, h | .fs _, _, h => by simp [Rc] at h
  | .agg cs, v, h => by
    simp only [Rc] at h ⊢
    obtain ⟨a, rfl, h⟩ := h
    exact ⟨a, rfl, RcL_mono hc hi cs a h⟩
  | .tup cs, v, h => by
    simp only [Rc] at h ⊢
    obtain ⟨a, rfl, h⟩ := h
    exact ⟨a, rfl, RcL_mono hc hi cs a h⟩
  | .sl rows, v, h => by
    simp only [Rc] at h ⊢
    obtain ⟨a, cap, rfl, hl, h⟩ := h
    refine ⟨a, cap, rfl, hl, h.imp id ?_⟩
    rintro ⟨b, o, s, rfl, hb, hr⟩
    exact ⟨b, o, s, rfl, hi b hb, RcRows_mono hc hi rows s b o hb hr⟩
  | .ep row off, v, h => by
    simp only [Rc] at h ⊢
    obtain ⟨b, o, rfl, hb, hr⟩ := h
    exact ⟨b, o, rfl, hi b hb, RcRow_mono hc hi row b o hb hr⟩
theorem RcL_mono (hc : ∀ b o, Im b → w'.cell? ⟨b, o, none⟩ = w.cell? ⟨b, o, none⟩) (hi : ∀ b, Im b → Im' b) : ∀ (ds : List D) (vs : List Value), RcL w Im ds vs → RcL w' Im' ds vs
  | [], _, h => by simpa [RcL] using h
  | d :: ds, vs, h => by
    simp only [RcL] at h ⊢
    obtain ⟨v, r, rfl, h1, h2⟩ := h
    exact ⟨v, r, rfl, Rc_mono hc hi d v h1, RcL_mono hc hi ds r h2⟩
theorem RcRow_mono (hc : ∀ b o, Im b → w'.cell? ⟨b, o, none⟩ = w.cell? ⟨b, o, none⟩) (hi : ∀ b, Im b → Im' b) : ∀ (ds : List D) (b o : Nat), Im b → RcRow w Im ds b o → RcRow w' Im' ds b o
  | [], _, _, _, _ => by simp [RcRow]
  | d :: ds, b, o, hb, h => by
    simp only [RcRow] at h ⊢
    obtain ⟨⟨c, h1, h2, h3⟩, h4⟩ := h
    exact ⟨⟨c, by rw [hc b o hb]; exact h1, h2, Rc_mono hc hi d c h3⟩, RcRow_mono hc hi ds b (o + 1) hb h4⟩
theorem RcRows_mono (hc : ∀ b o, Im b → w'.cell? ⟨b, o, none⟩ = w.cell? ⟨b, o, none⟩) (hi : ∀ b, Im b → Im' b) : ∀ (rs : List (List D)) (s b o : Nat), Im b → RcRows w Im rs s b o → RcRows w' Im' rs s b o
  | [], _, _, _, _, _ => by simp [RcRows]
  | r :: rs, s, b, o, hb, h => by
    simp only [RcRows] at h ⊢
    exact ⟨h.1, RcRow_mono hc hi r b o hb h.2.1, RcRows_mono hc hi rs s b (o + s) hb h.2.2⟩
end

theorem RcRows_at : ∀ (rs : List (List D)) (s b o i : Nat) (r : List D), RcRows w Im rs s b o → rs[i]? = some r → r.length = s ∧ RcRow w Im r b (o + i * s)
  | [], _, _, _, _, _, _, hi => by simp at hi
  | x :: rs, s, b, o, 0, r, h, hi => by
    simp only [RcRows] at h
    simp at hi; subst hi
    exact ⟨h.1, by simpa using h.2.1⟩
  | x :: rs, s, b, o, i + 1, r, h, hi => by
    simp only [RcRows] at h
    have := RcRows_at rs s b (o + s) i r h.2.2 (by simpa using hi)
    refine ⟨this.1, ?_⟩
    have e : o + s + i * s = o + (i + 1) * s := by rw [Nat.add_mul]; omega
    rw [← e]; exact this.2
theorem RcRow_at : ∀ (ds : List D) (b o j : Nat) (d : D), RcRow w Im ds b o → ds[j]? = some d → ∃ c, w.cell? ⟨b, o + j, none⟩ = some c ∧ c.oneCell' = true ∧ Rc w Im d c
  | [], _, _, _, _, _, hj => by simp at hj
  | x :: ds, b, o, 0, d, h, hj => by
    simp only [RcRow] at h
    simp at hj; subst hj
    simpa using h.1
  | x :: ds, b, o, j + 1, d, h, hj => by
    simp only [RcRow] at h
    have := RcRow_at ds b (o + 1) j d h.2 (by simpa using hj)
    have e : o + 1 + j = o + (j + 1) := by omega
    rw [← e]; exact this
theorem RcRow_drop : ∀ (ds : List D) (b o k : Nat), RcRow w Im ds b o → RcRow w Im (ds.drop k) b (o + k)
  | ds, b, o, 0, h => by simpa using h
  | [], b, o, k + 1, h => by simp [RcRow]
  | d :: ds, b, o, k + 1, h => by
    simp only [RcRow] at h
    have := RcRow_drop ds b (o + 1) k h.2
    have e : o + 1 + k = o + (k + 1) := by omega
    rw [← e]; simpa using this
theorem RcRow_take : ∀ (ds : List D) (b o k : Nat), RcRow w Im ds b o → RcRow w Im (ds.take k) b o
  | ds, b, o, 0, h => by simp [RcRow]
  | [], b, o, k + 1, h => by simp [RcRow]
  | d :: ds, b, o, k + 1, h => by
    simp only [RcRow, List.take_succ_cons] at h ⊢
    exact ⟨h.1, RcRow_take ds b (o + 1) k h.2⟩
/-- the cells of a row, read -/
theorem RcRow_list : ∀ (ds : List D) (b o : Nat), RcRow w Im ds b o → ∃ cs : List Value, RcL w Im ds cs ∧ (∀ v ∈ cs, v.oneCell' = true) ∧ ∀ j v, cs[j]? = some v → w.cell? ⟨b, o + j, none⟩ = some v
  | [], b, o, _ => ⟨[], by simp [RcL], by simp, by simp⟩
  | d :: ds, b, o, h => by
    simp only [RcRow] at h
    obtain ⟨⟨c, h1, h2, h3⟩, h4⟩ := h
    obtain ⟨cs, h5, h6, h7⟩ := RcRow_list ds b (o + 1) h4
    refine ⟨c :: cs, by simp only [RcL]; exact ⟨c, cs, rfl, h3, h5⟩, by simpa using ⟨h2, h6⟩, ?_⟩
    intro j v hj
    match j with
    | 0 => simp at hj; subst hj; simpa using h1
    | j + 1 =>
      have := h7 j v (by simpa using hj)
      have e : o + 1 + j = o + (j + 1) := by omega
      rw [← e]; exact this
theorem RcRows_take : ∀ (rs : List (List D)) (s b o k : Nat), RcRows w Im rs s b o → RcRows w Im (rs.take k) s b o
  | rs, s, b, o, 0, h => by simp [RcRows]
  | [], s, b, o, k + 1, h => by simp [RcRows]
  | r :: rs, s, b, o, k + 1, h => by
    simp only [RcRows, List.take_succ_cons] at h ⊢
    exact ⟨h.1, h.2.1, RcRows_take rs s b (o + s) k h.2.2⟩
theorem RcRows_drop : ∀ (rs : List (List D)) (s b o k : Nat), RcRows w Im rs s b o → RcRows w Im (rs.drop k) s b (o + k * s)
  | rs, s, b, o, 0, h => by simpa using h
  | [], s, b, o, k + 1, h => by simp [RcRows]
  | r :: rs, s, b, o, k + 1, h => by
    simp only [RcRows] at h
    have := RcRows_drop rs s b (o + s) k h.2.2
    have e : o + s + k * s = o + (k + 1) * s := by rw [Nat.add_mul]; omega
    rw [← e]; simpa using this
theorem RcRows_list : ∀ (rs : List (List D)) (s b o : Nat), RcRows w Im rs s b o → ∃ cs : List Value, RcL w Im rs.flatten cs ∧ cs.length = rs.length * s ∧ (∀ v ∈ cs, v.oneCell' = true) ∧ ∀ j v, cs[j]? = some v → w.cell? ⟨b, o + j, none⟩ = some v
  | [], s, b, o, _ => ⟨[], by simp [RcL], by simp, by simp, by simp⟩
  | r :: rs, s, b, o, h => by
    simp only [RcRows] at h
    obtain ⟨hl, hr, hrs⟩ := h
    obtain ⟨c1, h1, h2, h3⟩ := RcRow_list r b o hr
    obtain ⟨c2, h5, h6, h7, h8⟩ := RcRows_list rs s b (o + s) hrs
    have hlen : ∀ (ds : List D) (vs : List Value), RcL w Im ds vs → vs.length = ds.length := by
      intro ds
      induction ds with
      | nil => intro vs h; simp [RcL] at h; simp [h]
      | cons d ds ih => intro vs h; simp only [RcL] at h; obtain ⟨v, r, rfl, _, h⟩ := h; simp [ih r h]
    have happ : ∀ (ds es : List D) (vs us : List Value), RcL w Im ds vs → RcL w Im es us → RcL w Im (ds ++ es) (vs ++ us) := by
      intro ds
      induction ds with
      | nil => intro es vs us h h'; simp [RcL] at h; subst h; simpa using h'
      | cons d ds ih => intro es vs us h h'; simp only [RcL] at h; obtain ⟨v, r, rfl, ha, h⟩ := h; simp only [List.cons_append, RcL]; exact ⟨v, r ++ us, rfl, ha, ih es r us h h'⟩
    have hc1 := hlen _ _ h1
    refine ⟨c1 ++ c2, by simpa using happ _ _ _ _ h1 h5, by simp [h6, hc1, hl, Nat.add_mul, Nat.add_comm], ?_, ?_⟩
    · intro v hv
      rcases List.mem_append.1 hv with hv | hv
      · exact h2 v hv
      · exact h7 v hv
    · intro j v hj
      rcases Nat.lt_or_ge j c1.length with hlt | hge
      · rw [List.getElem?_append_left hlt] at hj
        exact h3 j v hj
      · rw [List.getElem?_append_right hge] at hj
        have := h8 _ v hj
        have e : o + s + (j - c1.length) = o + j := by omega
        rwa [e] at this
theorem RcL_length : ∀ (ds : List D) (vs : List Value), RcL w Im ds vs → vs.length = ds.length
  | [], _, h => by simp [RcL] at h; simp [h]
  | d :: ds, vs, h => by simp only [RcL] at h; obtain ⟨v, r, rfl, _, h⟩ := h; simp [RcL_length ds r h]
theorem RcL_append : ∀ (ds es : List D) (vs us : List Value), RcL w Im ds vs → RcL w Im es us → RcL w Im (ds ++ es) (vs ++ us)
  | [], es, vs, us, h, h' => by simp [RcL] at h; subst h; simpa using h'
  | d :: ds, es, vs, us, h, h' => by
    simp only [RcL] at h
    obtain ⟨v, r, rfl, ha, h⟩ := h
    simp only [List.cons_append, RcL]
    exact ⟨v, r ++ us, rfl, ha, RcL_append ds es r us h h'⟩
end
end Go.Proofs.Ytelolknpcmjdeaa
