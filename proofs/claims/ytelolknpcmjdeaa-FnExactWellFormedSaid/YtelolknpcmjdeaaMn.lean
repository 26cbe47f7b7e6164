/- What a reading of an argument tells the evaluator: the argument stands for a closed abstract value of its type's shape. -/
import Derived.Test.YtelolknpcmjdeaaMj
import Derived.ProofKit
namespace Go.Proofs.Ytelolknpcmjdeaa
open Go.RowKit Go.ChangeShapes Go.WideShapes

/-- the kinds of one cell -/
inductive CT where
  | int (k : IntKind)
  | bool
  | str
  | slice (es : List CT)

mutual
def IsC : CT → D → Prop
  | .int k, d => ∃ n, d = .int k n ∧ (Lit.int k n).wf = true
  | .bool, d => ∃ b, d = .bool b
  | .str, d => ∃ s : List UInt8, d = .str s ∧ s.length ≤ maxLen
  | .slice es, d => ∃ rows : List (List D), d = .sl rows ∧ rows.length ≤ maxLen ∧ ∀ r ∈ rows, IsL es r
def IsL : List CT → List D → Prop
  | [], ds => ds = []
  | c :: cs, ds => ∃ d r, ds = d :: r ∧ IsC c d ∧ IsL cs r
end

def ctFields (P : Program) (r : TypeId → Option (List CT)) : Nat → List Field → Option (List CT)
  | _, [] => some []
  | off, f :: fs =>
    if f.offset = off then
      match r f.type with
      | some c => if c.length = P.cellsOf f.type then (ctFields P r (off + c.length) fs).map (c ++ ·) else none
      | none => none
    else none
def ctOf (P : Program) : Nat → TypeId → Option (List CT)
  | 0, _ => none
  | n + 1, t =>
    match P.underlying t with
    | some (.int k) => some [.int k]
    | some .bool => some [.bool]
    | some .string => some [.str]
    | some (.slice e) =>
      match ctOf P n e with
      | some es => if es.length = P.cellsOf e ∧ es.length ≠ 0 then some [.slice es] else none
      | none => none
    | some (.struct fs) =>
      match ctFields P (ctOf P n) 0 fs.toList with
      | some c => if c.length = P.cellsOf t then some c else none
      | none => none
    | _ => none

theorem IsL_len : ∀ {cs : List CT} {ds : List D}, IsL cs ds → ds.length = cs.length
  | [], _, h => by simp only [IsL] at h; simp [h]
  | c :: cs, _, h => by
    simp only [IsL] at h
    obtain ⟨d, r, rfl, _, h⟩ := h
    simp [IsL_len h]
theorem IsL_append : ∀ {a b : List CT} {x y : List D}, IsL a x → IsL b y → IsL (a ++ b) (x ++ y)
  | [], b, x, y, h, h' => by simp only [IsL] at h; subst h; simpa using h'
  | c :: a, b, x, y, h, h' => by
    simp only [IsL] at h
    obtain ⟨d, r, rfl, h1, h2⟩ := h
    simp only [List.cons_append, IsL]
    exact ⟨d, r ++ y, rfl, h1, IsL_append h2 h'⟩
section
variable {H : Type} {enc : TypeId × Value → H} {P : Program} {w : World} {base : Nat} {sp : Nat → Bool} {held : Bool} {Im : Nat → Prop}
/-- one row that was read cell by cell -/
theorem RcRow_of : ∀ {ds : List D} {cs : List Value} {b o : Nat}, RcL w Im ds cs → (∀ c ∈ cs, c.oneCell' = true) → (∀ j, j < cs.length → w.cell? ⟨b, o + j, none⟩ = cs[j]?) → RcRow w Im ds b o
  | [], _, _, _, _, _, _ => by simp [RcRow]
  | d :: ds, cs, b, o, h, h1, hc => by
    simp only [RcL] at h
    obtain ⟨c, r, rfl, hd, hr⟩ := h
    simp only [RcRow]
    refine ⟨⟨c, by simpa using hc 0 (by simp), h1 c (by simp), hd⟩, RcRow_of hr (fun c hc => h1 c (by simp [hc])) ?_⟩
    intro j hj
    have := hc (j + 1) (by simpa using hj)
    simpa [Nat.add_assoc, Nat.add_comm 1 j] using this
theorem RcRows_of {s : Nat} {b : Nat} : ∀ {rows : List (List D)} {o : Nat}, (∀ i r, rows[i]? = some r → r.length = s ∧ RcRow w Im r b (o + i * s)) → RcRows w Im rows s b o
  | [], _, _ => by simp [RcRows]
  | r :: rs, o, h => by
    simp only [RcRows]
    have h0 := h 0 r rfl
    refine ⟨h0.1, by simpa using h0.2, RcRows_of fun i r' hr => ?_⟩
    have := h (i + 1) r' (by simpa using hr)
    rw [Nat.add_mul, Nat.one_mul, Nat.add_comm (i * s), ← Nat.add_assoc] at this
    exact this

def Good (w : World) (cts : List CT) (cs : List Value) : Prop := cs.length = cts.length ∧ (∀ c ∈ cs, c.oneCell' = true) ∧ ∃ ds, IsL cts ds ∧ RcL w (fun b => b < w.heap.size) ds cs

theorem good_append {a b : List CT} {x y : List Value} (h : Good w a x) (h' : Good w b y) : Good w (a ++ b) (x ++ y) := by
  obtain ⟨h1, h2, d, h3, h4⟩ := h
  obtain ⟨g1, g2, e, g3, g4⟩ := h'
  refine ⟨by simp [h1, g1], ?_, d ++ e, IsL_append h3 g3, RcL_append _ _ _ _ h4 g4⟩
  intro c hc
  rcases List.mem_append.1 hc with hc | hc
  · exact h2 c hc
  · exact g2 c hc
theorem good_one {c : CT} {v : Value} {d : D} (h1 : v.oneCell' = true) (h : IsC c d) (h' : Rc w (fun b => b < w.heap.size) d v) : Good w [c] [v] := by
  refine ⟨rfl, by simpa using h1, [d], ?_, ?_⟩
  · simp only [IsL]; exact ⟨d, [], rfl, h, rfl⟩
  · simp only [RcL]; exact ⟨v, [], rfl, h', rfl⟩

theorem fields_open {r : TypeId → Option (List CT)} {cs : List Value} {n : Nat} (hr : ∀ t c, r t = some c → ∀ x cs, DataW.trod enc P w base sp held n t cs = some x → Good w c cs) : ∀ (fs : List Field) (off : Nat) (cts : List CT),
    ctFields P r off fs = some cts → cs.length = off + cts.length → (∀ f ∈ fs, ∃ x, DataW.trod enc P w base sp held n f.type ((cs.drop f.offset).take (P.cellsOf f.type)) = some x) → Good w cts (cs.drop off)
  | [], off, cts, h, hl, _ => by
    simp only [ctFields, Option.some.injEq] at h
    subst h
    have : cs.drop off = [] := List.drop_eq_nil_of_le (by simp at hl; omega)
    rw [this]
    exact ⟨rfl, by simp, [], by simp [IsL], by simp [RcL]⟩
  | f :: fs, off, cts, h, hl, hf => by
    simp only [ctFields] at h
    split at h
    · rename_i ho
      split at h
      · rename_i c hc
        split at h
        · rename_i hcl
          simp only [Option.map_eq_some_iff] at h
          obtain ⟨c', h', rfl⟩ := h
          obtain ⟨x, hx⟩ := hf f (by simp)
          have g1 := hr _ _ hc _ _ hx
          have g2 := fields_open hr fs _ _ h' (by simp at hl; omega) (fun f hf' => hf f (by simp [hf']))
          rw [ho, ← hcl] at g1
          have : cs.drop off = (cs.drop off).take c.length ++ cs.drop (off + c.length) := by
            rw [← List.drop_drop, List.take_append_drop]
          rw [this]
          exact good_append g1 g2
        · cases h
      · cases h
    · cases h

theorem cells_get {a : Addr} {k : Nat} {cs : List Value} (h : w.cells? base a k = some cs) : cs.length = k ∧ ∀ j, j < k → w.cell? (a.add j) = cs[j]? := by
  unfold World.cells? at h
  split at h
  · exact ⟨by simpa using mapM_some_length h, fun j hj => mapM_some_get h j j (by simp [hj])⟩
  · cases h

theorem ct_open : ∀ (fuel : Nat) (t : TypeId) (cts : List CT), ctOf P fuel t = some cts → ∀ (m : Nat) (cs : List Value) (x : DataW H × List MemPlace), DataW.trod enc P w base sp held m t cs = some x → Good w cts cs
  | 0, _, _, h, _, _, _, _ => by simp [ctOf] at h
  | n + 1, t, cts, h, m, cs, x, hx => by
    simp only [ctOf] at h
    split at h
    · rename_i k hu
      cases h
      obtain ⟨z, rfl, _, hw⟩ := DataW.trod_int hu hx
      exact good_one rfl (d := .int k z) (by simp only [IsC]; exact ⟨z, rfl, hw⟩) (by simp [Rc])
    · rename_i hu
      cases h
      obtain ⟨z, rfl, _⟩ := DataW.trod_bool hu hx
      exact good_one rfl (d := .bool z) (by simp only [IsC]; exact ⟨z, rfl⟩) (by simp [Rc])
    · rename_i hu
      cases h
      obtain ⟨s, rfl, _, hs⟩ := DataW.trod_string hu hx
      exact good_one rfl (d := .str s.data.toList) (by simp only [IsC]; exact ⟨_, rfl, by simpa using hs⟩) (by simp [Rc])
    · rename_i e hu
      split at h
      · rename_i es he
        split at h
        · rename_i hes
          cases h
          rcases DataW.trod_slice hu hx with ⟨rfl, _⟩ | ⟨a, len, cap, elems, rest, k, rfl, rfl, _, hb, hlc, hcm, hel, hget, _, _⟩
          · exact good_one rfl (d := .sl []) (by simp only [IsC]; exact ⟨[], rfl, by simp, by simp⟩) (by simp only [Rc]; exact ⟨none, 0, rfl, by simp, by simp⟩)
          · have hrow : ∀ i, i < len → ∃ cs', w.cells? base (a.add (i * P.cellsOf e)) (P.cellsOf e) = some cs' ∧ Good w es cs' := by
              intro i hi
              have := hget i hi
              rw [List.getElem?_eq_getElem (by omega)] at this
              simp only [Option.bind_eq_some_iff] at this
              obtain ⟨cs', h1, h2⟩ := this
              exact ⟨cs', h1, ct_open n e es he k cs' _ h2⟩
            have hds : ∀ i, ∃ ds : List D, i < len → ∃ cs', w.cells? base (a.add (i * P.cellsOf e)) (P.cellsOf e) = some cs' ∧ (∀ c ∈ cs', c.oneCell' = true) ∧ IsL es ds ∧ RcL w (fun b => b < w.heap.size) ds cs' := by
              intro i
              by_cases hi : i < len
              · obtain ⟨cs', h1, h2, h3, ds, h4, h5⟩ := hrow i hi
                exact ⟨ds, fun _ => ⟨cs', h1, h3, h4, h5⟩⟩
              · exact ⟨[], fun hh => absurd hh hi⟩
            have hfun : ∃ f : Nat → List D, ∀ i, i < len → ∃ cs', w.cells? base (a.add (i * P.cellsOf e)) (P.cellsOf e) = some cs' ∧ (∀ c ∈ cs', c.oneCell' = true) ∧ IsL es (f i) ∧ RcL w (fun b => b < w.heap.size) (f i) cs' :=
              ⟨fun i => Classical.choose (hds i), fun i => Classical.choose_spec (hds i)⟩
            obtain ⟨f, hf⟩ := hfun
            have hlen : ((List.range len).map f).length = len := by simp
            refine good_one rfl (d := .sl ((List.range len).map f)) ?_ ?_
            · simp only [IsC]
              refine ⟨_, rfl, by rw [hlen]; omega, ?_⟩
              intro r hr
              obtain ⟨i, hi, rfl⟩ := List.mem_map.1 hr
              obtain ⟨_, _, _, h3, _⟩ := hf i (by simpa using hi)
              exact h3
            · simp only [Rc, hlen]
              refine ⟨some a, cap, rfl, hlc, ?_⟩
              by_cases h0 : len = 0
              · exact .inl (by simp [h0])
              · right
                obtain ⟨b, o, spt⟩ := a
                obtain ⟨cs0, z1, _⟩ := hf 0 (by omega)
                obtain ⟨z2, z3⟩ := cells_get z1
                have z4 := z3 0 (by omega)
                rw [List.getElem?_eq_getElem (by omega)] at z4
                simp only [Nat.zero_mul, Addr.add, if_true] at z4
                have hspot : spt = none := by simpa using World.cell?_spot z4
                subst hspot
                have hblk : b < w.heap.size := World.block_lt_of_cell? w _ z4
                have cell0 : ∀ i, i < len → ∀ cs', w.cells? base ((⟨b, o, none⟩ : Addr).add (i * P.cellsOf e)) (P.cellsOf e) = some cs' → cs'.length = es.length ∧ ∀ j, j < es.length → w.cell? (⟨b, o + i * es.length + j, none⟩ : Addr) = cs'[j]? := by
                  intro i hi cs' hcs
                  obtain ⟨g1, g2⟩ := cells_get hcs
                  rw [hes.1]
                  exact ⟨g1, fun j hj => by
                    have := g2 j hj
                    have e1 : ((⟨b, o, none⟩ : Addr).add (i * P.cellsOf e)).add j = ⟨b, o + i * P.cellsOf e + j, none⟩ := by
                      simp only [Addr.add]; split <;> split <;> simp_all
                    rw [← e1]; exact this⟩
                refine ⟨b, o, es.length, rfl, hblk, RcRows_of ?_⟩
                intro i r hr
                simp only [List.getElem?_map, Option.map_eq_some_iff] at hr
                obtain ⟨i', hi', rfl⟩ := hr
                have hii : i' = i ∧ i < len := by
                  rcases Nat.lt_or_ge i len with hl | hl
                  · rw [List.getElem?_range hl] at hi'; exact ⟨(Option.some.inj hi').symm, hl⟩
                  · rw [List.getElem?_eq_none (by simpa using hl)] at hi'; cases hi'
                obtain ⟨rfl, hl⟩ := hii
                obtain ⟨cs', y1, y2, y3, y4⟩ := hf i' hl
                obtain ⟨y5, y6⟩ := cell0 i' hl cs' y1
                exact ⟨IsL_len y3, RcRow_of y4 y2 (by rw [y5]; exact y6)⟩
        · cases h
      · cases h
    · rename_i fs hu
      split at h
      · rename_i c hc
        split at h
        · rename_i hcl
          cases h
          obtain ⟨xs, k, rfl, _, hl, hxl, hget⟩ := DataW.trod_struct hu hx
          have := fields_open (cs := cs) (fun t c hc x cs hh => ct_open n t c hc k cs x hh) fs.toList 0 cts hc (by omega) (by
            intro f hf
            obtain ⟨i, hi, hfi⟩ := List.getElem_of_mem hf
            have h1 : fs[i]? = some f := by rw [← Array.getElem?_toList, List.getElem?_eq_getElem hi, hfi]
            have h2 := hget i f h1
            have : i < xs.length := by rw [hxl]; simpa using hi
            rw [List.getElem?_eq_getElem this] at h2
            exact ⟨_, h2⟩)
          simpa using this
        · cases h
      · cases h
    · cases h

/-- an argument that is a struct -/
theorem arg_struct {t : TypeId} {fs : Array Field} {r : Reach} {b0 : Nat} {v : Value} {d : DataW H} {ps : List MemPlace} {cts : List CT} (n : Nat) (hu : P.underlying t = some (.struct fs)) (hct : ctOf P n t = some cts)
    (hval : Value.okWide P w r b0 t v) (h : DataW.Trod enc P w base sp held t v d ps) : ∃ ds, IsL cts ds ∧ Rc w (fun b => b < w.heap.size) (.agg ds) v := by
  simp only [Value.okWide, hu] at hval
  obtain ⟨cs, rfl, _, _⟩ := hval
  obtain ⟨m, hm⟩ := h
  obtain ⟨_, _, ds, h1, h2⟩ := ct_open n t cts hct m _ _ hm
  refine ⟨ds, h1, ?_⟩
  simp only [Rc]
  exact ⟨cs.toList, by simp, by simpa [Value.cells] using h2⟩
/-- one that is a single cell -/
theorem arg_cell {t : TypeId} {v : Value} {d : DataW H} {ps : List MemPlace} {c : CT} (n : Nat) (hct : ctOf P n t = some [c]) (hv : v.cells = #[v]) (h : DataW.Trod enc P w base sp held t v d ps) : ∃ d, IsC c d ∧ Rc w (fun b => b < w.heap.size) d v := by
  obtain ⟨m, hm⟩ := h
  rw [hv] at hm
  obtain ⟨_, _, ds, h1, h2⟩ := ct_open n t _ hct m _ _ hm
  simp only [IsL] at h1
  obtain ⟨d, r, rfl, h3, rfl⟩ := h1
  simp only [RcL] at h2
  obtain ⟨_, _, he, h4, rfl⟩ := h2
  simp only [List.cons.injEq, and_true] at he
  subst he
  exact ⟨d, h3, h4⟩
end
end Go.Proofs.Ytelolknpcmjdeaa
