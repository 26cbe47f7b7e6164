/- The effects: variables, stores, new slices, append. -/
import Derived.Test.YtelolknpcmjdeaaMe
namespace Go.Proofs.Ytelolknpcmjdeaa
open Go.RowKit

section
variable {B0 : Nat} {X I0 : Nat → Prop} {w0 : World} {n : Nat} {Im : Nat → Prop} {β : Nat → RowG} {σ : Nat → D} {M : Nat → Option Ent} {a : Act} {w : World} {P : Program}

theorem allOne {cs : List D} {vs : List Value} (hv : RvL w Im β M cs vs) (ho : cs.all one = true) : ∀ v ∈ vs, v.oneCell' = true := by
  induction cs generalizing vs with
  | nil => simp [RvL] at hv; simp [hv]
  | cons d cs ih =>
    simp only [RvL] at hv
    obtain ⟨v, r, rfl, h1, h2⟩ := hv
    simp only [List.all_cons, Bool.and_eq_true] at ho
    intro u hu
    rcases List.mem_cons.1 hu with rfl | hu
    · exact one_oneCell h1 ho.1
    · exact ih h2 ho.2 u hu

theorem heap_alloc_below (w : World) (o : Obj) (k : Nat) (h : k < w.heap.size) : (w.alloc o).heap[k]? = w.heap[k]? := Below.heap_alloc w o k h

/-- A new variable. -/
theorem box_sound (h : StG B0 X I0 w0 n Im β σ M a w) {d : Nat} {cs : List D} {v : Value} {t : TypeId} (hv : RvL w Im β M cs v.cells.toList) (ho : cs.all one = true) :
    ∃ β', StG B0 X I0 w0 n Im β' (scrS d σ) (upd (scrM d M) d (some (.box (scrL d cs)))) a (w.alloc (.cells v.cells t)) ∧
      Rv (w.alloc (.cells v.cells t)) Im β' (upd (scrM d M) d (some (.box (scrL d cs)))) (.ptr d 0 0) (.pointer (some ⟨w.heap.size, 0, none⟩)) := by
  have hc : ∀ b o, Im b → (w.alloc (.cells v.cells t)).cell? ⟨b, o, none⟩ = w.cell? ⟨b, o, none⟩ := fun b o hb => World.cell?_of_block (w := w) (heap_alloc_below w _ b (h.im b hb))
  refine ⟨upd β d ⟨w.heap.size, 1, 0, false⟩, ?_, ?_⟩
  · refine h.setEnt d ⟨w.heap.size, 1, 0, false⟩ (.box (scrL d cs)) rfl rfl rfl (by simp) (fun k hk _ => heap_alloc_below w _ k hk) ?_ (fun _ => .inr ⟨h.base, fun j e hj hn _ => Nat.ne_of_lt (h.blk_lt hj hn)⟩)
    simp only [EntOk]
    refine ⟨trivial, fun hi => Nat.lt_irrefl _ (h.im _ hi), v.cells, t, heap_alloc_new w _, allOne hv ho, ?_⟩
    exact RvL_scr hc (fun _ hb => hb) (agreeBut_set _ _ _) _ _ hv
  · simp [Rv, upd_same]

theorem RvL_set : ∀ (cells : List D) (off : Nat) (cs : List D) (vs us : List Value), RvL w Im β M cells vs → RvL w Im β M cs us → off + cs.length ≤ cells.length →
    RvL w Im β M (lay cells off cs) (vs.take off ++ us ++ vs.drop (off + us.length)) := by
  intro cells off cs vs us h1 h2 _
  unfold lay
  rw [← RvL_length _ _ h2]
  exact RvL_append _ _ _ _ (RvL_append _ _ _ _ (RvL_take _ _ _ h1) h2) (RvL_drop _ _ _ h1)

mutual
/-- closed: nothing of the table in it -/
def clo : D → Bool
  | .ptr .. | .fs _ | .any | .nov | .ep .. => false
  | .agg cs => cloL cs
  | .tup cs => cloL cs
  | _ => true
def cloL : List D → Bool
  | [] => true
  | d :: ds => clo d && cloL ds
end
mutual
theorem Rc_of_clo : ∀ (d : D) (v : Value), clo d = true → Rv w Im β M d v → Rc w Im d v
  | .int .., _, _, hv | .bool _, _, _, hv | .str _, _, _, hv | .nl, _, _, hv | .sl _, _, _, hv => by simpa only [Rv] using hv
  | .any, _, hn, _ | .nov, _, hn, _ | .ep .., _, hn, _ | .ptr .., _, hn, _ | .fs _, _, hn, _ => by simp [clo] at hn
  | .agg cs, v, hn, hv => by
    simp only [Rv, clo, Rc] at hv hn ⊢
    obtain ⟨x, rfl, hv⟩ := hv
    exact ⟨x, rfl, RcL_of_clo cs x hn hv⟩
  | .tup cs, v, hn, hv => by
    simp only [Rv, clo, Rc] at hv hn ⊢
    obtain ⟨x, rfl, hv⟩ := hv
    exact ⟨x, rfl, RcL_of_clo cs x hn hv⟩
theorem RcL_of_clo : ∀ (ds : List D) (vs : List Value), cloL ds = true → RvL w Im β M ds vs → RcL w Im ds vs
  | [], _, _, hv => by simpa [RvL, RcL] using hv
  | d :: ds, vs, hn, hv => by
    simp only [RvL, RcL, cloL, Bool.and_eq_true] at hv hn ⊢
    obtain ⟨v, r, rfl, h1, h2⟩ := hv
    exact ⟨v, r, rfl, Rc_of_clo d v hn.1 h1, RcL_of_clo ds r hn.2 h2⟩
end

theorem RcRowsL_length : ∀ (rs : List (List D)) (s : Nat) (l : List Value), RcRowsL w Im rs s l → rs.length * s ≤ l.length
  | [], _, _, _ => by simp
  | r :: rs, s, l, h => by
    simp only [RcRowsL] at h
    obtain ⟨c, rest, rfl, h1, _, h3⟩ := h
    have := RcRowsL_length rs s rest h3
    simp only [List.length_cons, List.length_append, h1, Nat.add_mul]
    omega
theorem RcRowsL_take : ∀ (rs : List (List D)) (s : Nat) (l m : List Value), RcRowsL w Im rs s l → RcRowsL w Im rs s (l.take (rs.length * s) ++ m)
  | [], _, _, _, _ => by simp [RcRowsL]
  | r :: rs, s, l, m, h => by
    simp only [RcRowsL] at h ⊢
    obtain ⟨c, rest, rfl, h1, h2, h3⟩ := h
    refine ⟨c, rest.take (rs.length * s) ++ m, ?_, h1, h2, RcRowsL_take rs s rest m h3⟩
    simp only [List.length_cons]
    rw [List.take_append, h1, List.take_of_length_le (by rw [h1, Nat.add_mul]; omega), show (rs.length + 1) * s - s = rs.length * s by rw [Nat.add_mul]; omega, List.append_assoc]
theorem RcRowsL_append : ∀ (rs qs : List (List D)) (s : Nat) (l m : List Value), RcRowsL w Im rs s l → l.length = rs.length * s → RcRowsL w Im qs s m → RcRowsL w Im (rs ++ qs) s (l ++ m)
  | [], qs, s, l, m, _, hl, hq => by
    have : l = [] := List.eq_nil_of_length_eq_zero (by simpa using hl)
    subst this; simpa using hq
  | r :: rs, qs, s, l, m, h, hl, hq => by
    simp only [RcRowsL, List.cons_append] at h ⊢
    obtain ⟨c, rest, rfl, h1, h2, h3⟩ := h
    refine ⟨c, rest ++ m, by simp, h1, h2, RcRowsL_append rs qs s rest m h3 ?_ hq⟩
    simp only [List.length_append, List.length_cons, h1, Nat.add_mul] at hl
    omega
theorem RcRowsL_of_flat : ∀ (rs : List (List D)) (s : Nat) (cs m : List Value), RcL w Im rs.flatten cs → RowLen rs s → RcRowsL w Im rs s (cs ++ m)
  | [], _, _, _, _, _ => by simp [RcRowsL]
  | r :: rs, s, cs, m, h, hl => by
    have hr : r.length = s := hl r (by simp)
    have hsplit : ∀ (ds es : List D) (vs : List Value), RcL w Im (ds ++ es) vs → ∃ v1 v2, vs = v1 ++ v2 ∧ RcL w Im ds v1 ∧ RcL w Im es v2 := by
      intro ds
      induction ds with
      | nil => intro es vs h; exact ⟨[], vs, rfl, by simp [RcL], by simpa using h⟩
      | cons d ds ih =>
        intro es vs h
        simp only [List.cons_append, RcL] at h
        obtain ⟨v, t, rfl, h1, h2⟩ := h
        obtain ⟨v1, v2, rfl, h3, h4⟩ := ih es t h2
        exact ⟨v :: v1, v2, rfl, by simp only [RcL]; exact ⟨v, v1, rfl, h1, h3⟩, h4⟩
    obtain ⟨v1, v2, rfl, h1, h2⟩ := hsplit _ _ _ (by simpa using h)
    simp only [RcRowsL]
    exact ⟨v1, v2 ++ m, by simp, by rw [RcL_length _ _ h1]; exact hr, h1, RcRowsL_of_flat rs s v2 m h2 (fun r' hr' => hl r' (by simp [hr']))⟩

/-- An append within the capacity, whatever type the block bears. -/
theorem run_append_room' (w : World) (t ty e e0 : TypeId) (i : TypeInfo) (ht : P.underlying t = some (.slice e)) (hi : P.info? e = some i)
    (g sLen sCap : Nat) (cur : Array Value) (hg : w.heap[g]? = some (.cells cur e0 (0, 0)))
    (a : Addr) (m c : Nat) (news : List Value) (hl : news.length = m * i.size) (hnews : ∀ j u, news[j]? = some u → w.cell? (a.add j) = some u) (h1 : ∀ u ∈ news, u.oneCell' = true)
    (hroom : sLen + m ≤ sCap) (hfit : sLen * i.size + news.length ≤ cur.size) :
    (Builtin.append_ #[t, t] ty #[.slice (some ⟨g, 0, none⟩) sLen sCap, .slice (some a) m c]).run P w =
      .ok (.slice (some ⟨g, 0, none⟩) (sLen + m) sCap) (w.setRow g (cur.toList.take (sLen * i.size) ++ news ++ cur.toList.drop (sLen * i.size + news.length)).toArray) := by
  have hf := run_firstCells_some (P := P) w i.size m a m c news hl hnews
  have hst := run_storeCells_at P g (sLen * i.size) e0 news 0 cur w hg (by simpa using hfit) h1
  simp only [Nat.add_zero] at hst
  simp [Builtin.append_, run_underlying ht, Go.sizeOf, typeInfo, hi, Builtin.lenOf, hroom, hf, Addr.add_lit, hst]

theorem run_append_zero (w : World) (t ty e : TypeId) (i : TypeInfo) (ht : P.underlying t = some (.slice e)) (hi : P.info? e = some i) (b : Option Addr) (sLen sCap : Nat) (hc : sLen ≤ sCap) (x : Option Addr) (c : Nat) :
    (Builtin.append_ #[t, t] ty #[.slice b sLen sCap, .slice x 0 c]).run P w = .ok (.slice b sLen sCap) w := by
  cases b <;> cases x <;> simp [Builtin.append_, run_underlying ht, Go.sizeOf, typeInfo, hi, Builtin.lenOf, hc, Builtin.firstCells, loadCells, loadCellsFrom, storeCells]

/-- What an append does to an entry. -/
theorem append_ent {t ty e : TypeId} {es eb : Nat} {ez : List D} (htd : (tI P t).d = .slice e es eb ez) (hes : es ≠ 0) (hez : ez.length = es) (hezo : ez.all one = true) {g : RowG} {rows nrows : List (List D)} (hok : EntOk w Im β M g (.row rows)) (him : ∀ b, Im b → b < w.heap.size) (hrl : RowLen rows es)
    {ad : Option Addr} {cap : Nat} (hnew : nrows = [] ∨ ∃ b o s cs, ad = some ⟨b, o, none⟩ ∧ RowLen nrows s ∧ RcL w Im nrows.flatten cs ∧ cs.length = nrows.length * s ∧ (∀ v ∈ cs, v.oneCell' = true) ∧ CellsAt w b o cs) (hrn : RowLen nrows es)
    (hsz : (rows.length + nrows.length) * eb ≤ 140737488355328) (h63 : rows.length + nrows.length ≤ maxLen) :
    ∃ g' w', (Builtin.append_ #[t, t] ty #[g.val rows.length, .slice ad nrows.length cap]).run P w = .ok (g'.val (rows.length + nrows.length)) w' ∧
      (∀ β' M', EntOk w' Im β' M' g' (.row (rows ++ nrows))) ∧ w'.os = w.os ∧ w'.tape = w.tape ∧ w'.output = w.output ∧ w.heap.size ≤ w'.heap.size ∧
      (∀ k, k < w.heap.size → (g.nil = false → k ≠ g.blk) → w'.heap[k]? = w.heap[k]?) ∧ (g'.nil = false → (g.nil = false ∧ g'.blk = g.blk) ∨ w.heap.size ≤ g'.blk) := by
  obtain ⟨hu, hes', heb, hezz⟩ := tI_slice htd
  have hes0 := hes
  rw [hes'] at hes0
  obtain ⟨i, hi, hisz⟩ := info_of_size hes0
  have hsi : es = i.size := by rw [hes', hisz]
  have hbi : eb = i.bytes := by rw [heb, hi]; simp
  obtain ⟨z, hz, hzs, hzo⟩ : ∃ z, i.zero = some z ∧ z.cells.size = i.size ∧ ∀ v ∈ z.cells.toList, v.oneCell' = true := by
    cases hz : i.zero with
    | none => simp [zerosOf, hi, hz] at hezz; subst hezz; simp at hez; omega
    | some z =>
      simp [zerosOf, hi, hz] at hezz
      subst hezz
      simp at hez
      refine ⟨z, rfl, by rw [← hsi]; exact hez, ?_⟩
      intro v hv
      have := List.all_eq_true.1 hezo (cD v) (List.mem_map.2 ⟨v, hv, rfl⟩)
      exact one_oneCell (w := w) (Im := Im) (β := β) (M := M) (Rv_cD v) this
  have rowIrr : ∀ {β' : Nat → RowG} {M' : Nat → Option Ent} {g : RowG} {rows : List (List D)}, EntOk w Im β M g (.row rows) → EntOk w Im β' M' g (.row rows) := by
    intro β' M' g rows hh; simpa only [EntOk] using hh
  by_cases hm : nrows = []
  · subst hm
    refine ⟨g, w, ?_, fun β' M' => by simpa using rowIrr hok, rfl, rfl, rfl, Nat.le_refl _, fun _ _ _ => rfl, fun hn => .inl ⟨hn, rfl⟩⟩
    simp only [List.length_nil, Nat.add_zero]
    simp only [EntOk] at hok
    rcases hok with ⟨h1, rfl⟩ | ⟨h1, h2, h3, _⟩
    · simpa [RowG.val, h1] using run_append_zero w t ty e i hu hi none 0 0 (Nat.le_refl _) ad cap
    · simpa [RowG.val, h1] using run_append_zero w t ty e i hu hi (some ⟨g.blk, 0, none⟩) rows.length g.cap h3 ad cap
  · have hm0 : 0 < nrows.length := List.length_pos_iff.2 hm
    obtain ⟨b, o, s, cs, rfl, hs, hcs, hcl, hone, hcat⟩ := hnew.resolve_left hm
    have hse : s = es := by
      obtain ⟨r0, hr0⟩ : ∃ r0, nrows[0]? = some r0 := ⟨_, List.getElem?_eq_getElem hm0⟩
      have m0 := List.mem_of_getElem? hr0
      rw [← hs r0 m0, hrn r0 m0]
    subst hse
    have hnews : ∀ j u, cs[j]? = some u → w.cell? ((⟨b, o, none⟩ : Addr).add j) = some u := fun j u hj => by rw [Addr.add_lit]; exact hcat j u hj
    have hl : cs.length = nrows.length * i.size := by rw [hcl, hsi]
    -- a new array
    have grown : ∀ (old : List Value) (oldCap : Nat), RcRowsL w Im rows s old → old.length = rows.length * s → (∀ v ∈ old, v.oneCell' = true) → 
        ∀ (w' : World) (nc : Nat), rows.length + nrows.length ≤ nc → nc ≤ maxLen → w' = w.drew.alloc (.cells (old.toArray ++ cs.toArray ++ Builtin.zeroCells z.cells (nc - (rows.length + nrows.length))) e) →
        (∀ β' M', EntOk w' Im β' M' ⟨w.heap.size, nc, s, false⟩ (.row (rows ++ nrows))) ∧ w'.os = w.os ∧ w'.tape = w.tape ∧ w'.output = w.output ∧ w.heap.size ≤ w'.heap.size ∧
        (∀ k, k < w.heap.size → w'.heap[k]? = w.heap[k]?) := by
      intro old oldCap hro hlo hoo w' nc hnc hncm hw'
      subst hw'
      have hcell : ∀ bb oo, Im bb → (w.drew.alloc (.cells (old.toArray ++ cs.toArray ++ Builtin.zeroCells z.cells (nc - (rows.length + nrows.length))) e)).cell? ⟨bb, oo, none⟩ = w.cell? ⟨bb, oo, none⟩ :=
        fun bb oo hbb => World.cell?_of_block (w := w) (heap_alloc_below w.drew _ bb (him bb hbb))
      refine ⟨fun β' M' => ?_, rfl, rfl, rfl, by simp, fun k hk => heap_alloc_below w.drew _ k hk⟩
      simp only [EntOk]
      refine .inr ⟨trivial, fun hh => Nat.lt_irrefl _ (him _ hh), by simpa using hnc, ⟨hncm, fun hh => absurd hh (by simp [hm])⟩, _, e, heap_alloc_new w.drew _, ?_, ?_, ?_⟩
      · simp only [Array.size_append, List.size_toArray, size_zeroCells, hlo, hcl, hzs, ← hsi, ← Nat.add_mul]
        congr 1
        omega
      · intro v hv
        simp only [Array.toList_append, List.mem_append] at hv
        rcases hv with (hv | hv) | hv
        · exact hoo v hv
        · exact hone v hv
        · simp only [Builtin.zeroCells, Array.toList_map, List.mem_map] at hv
          obtain ⟨j, hj, rfl⟩ := hv
          have hpos : 0 < z.cells.size := by rw [hzs, ← hsi]; omega
          have hmod := Nat.mod_lt j hpos
          rw [getElem!_pos z.cells (j % z.cells.size) hmod]
          exact hzo _ (Array.mem_toList_iff.2 (Array.getElem_mem hmod))
      · simp only [Array.toList_append]
        rw [List.append_assoc]
        refine RcRowsL_append _ _ _ _ _ (RcRowsL_mono hcell (fun _ h => h) _ _ _ hro) hlo ?_
        exact RcRowsL_of_flat _ _ _ _ (RcL_mono hcell (fun _ h => h) _ _ hcs) hs
    have h63n : rows.length + nrows.length ≤ 9223372036854775807 := by simp only [maxLen] at h63; omega
    simp only [EntOk] at hok
    rcases hok with ⟨hnil, rfl⟩ | ⟨hnil, hnim, hcap, ⟨hcm, hc0⟩, cur, e0, hheap, hcur, hcone, hrows⟩
    · have hr := run_append_nil (P := P) w t ty e i z hu hi hz ⟨b, o, none⟩ nrows.length cap cs hl hnews hm0 (by simp at h63n; omega) (by rw [← hbi]; simp at hsz; omega)
      obtain ⟨g1, g2, g3, g4, g5, g6⟩ := grown [] 0 (by simp [RcRowsL]) (by simp) (by simp) _ (grownCap w nrows.length 0 e) (by simpa using grownCap_ge w nrows.length 0 e) (grownCap_le_maxLen w _ _ _ (by simpa using h63)) rfl
      simp only [List.length_nil, Nat.zero_add, List.nil_append] at g1 g2 g3 g4 g5 g6 ⊢
      refine ⟨⟨w.heap.size, grownCap w nrows.length 0 e, s, false⟩, _, ?_, g1, g2, g3, g4, g5, fun k hk _ => g6 k hk, fun _ => .inr (Nat.le_refl _)⟩
      simpa [RowG.val, hnil] using hr
    · by_cases hroom : rows.length + nrows.length ≤ g.cap
      · have hne : rows ≠ [] := by
          rintro rfl
          have := hc0 rfl
          simp at hroom; omega
        have hgs : g.sz = s := by
          have h0 : 0 < rows.length := List.length_pos_iff.2 hne
          have e1 := (RcRowsL_at _ _ _ 0 hrows h0).2
          have e2 := hrl (rows.getD 0 []) (by
            rw [show rows.getD 0 [] = rows[0] by simp [List.getD, h0]]
            exact List.getElem_mem h0)
          rw [← e1, e2]
        have hfit : rows.length * i.size + cs.length ≤ cur.size := by
          rw [hl, hcur, hgs, hsi, ← Nat.add_mul]; exact Nat.mul_le_mul_right _ hroom
        have hr := run_append_room' (P := P) w t ty e e0 i hu hi g.blk rows.length g.cap cur hheap ⟨b, o, none⟩ nrows.length cap cs hl hnews hone hroom hfit
        refine ⟨g, w.setRow g.blk (cur.toList.take (rows.length * i.size) ++ cs ++ cur.toList.drop (rows.length * i.size + cs.length)).toArray, ?_, ?_, rfl, rfl, rfl, by simp, ?_, fun hn => .inl ⟨hn, rfl⟩⟩
        · simpa [RowG.val, hnil] using hr
        · intro β' M'
          have hcell : ∀ bb oo, Im bb → (w.setRow g.blk (cur.toList.take (rows.length * i.size) ++ cs ++ cur.toList.drop (rows.length * i.size + cs.length)).toArray).cell? ⟨bb, oo, none⟩ = w.cell? ⟨bb, oo, none⟩ :=
            fun bb oo hbb => cell_setRow_other w _ _ ⟨bb, oo, none⟩ (fun he => hnim (he ▸ hbb))
          have hlen0 : cur.toList.length = g.cap * g.sz := by simpa using hcur
          have hheap' := setRow_heap w g.blk cur (cur.toList.take (rows.length * i.size) ++ cs ++ cur.toList.drop (rows.length * i.size + cs.length)).toArray e0 _ hheap
          generalize w.setRow g.blk (cur.toList.take (rows.length * i.size) ++ cs ++ cur.toList.drop (rows.length * i.size + cs.length)).toArray = w' at hcell hheap' ⊢
          simp only [EntOk]
          refine .inr ⟨hnil, hnim, by simpa using hroom, ⟨hcm, fun hh => absurd hh (by simp [hm])⟩, _, e0, hheap', ?_, ?_, ?_⟩
          · simp only [List.size_toArray, List.length_append, List.length_take, List.length_drop, hlen0]
            have : cur.size = g.cap * g.sz := hcur
            omega
          · intro v hv
            simp only [List.mem_append] at hv
            rcases hv with (hv | hv) | hv
            · exact hcone v (List.mem_of_mem_take hv)
            · exact hone v hv
            · exact hcone v (List.mem_of_mem_drop hv)
          · rw [List.append_assoc, ← hsi, hgs]
            refine RcRowsL_append _ _ _ _ _ ?_ ?_ ?_
            · have := RcRowsL_take _ _ _ [] (RcRowsL_mono hcell (fun _ h => h) _ _ _ hrows)
              rw [hgs] at this
              simpa using this
            · rw [List.length_take, hlen0, hgs]
              exact Nat.min_eq_left (Nat.mul_le_mul_right _ hcap)
            · exact RcRowsL_of_flat _ _ _ _ (RcL_mono hcell (fun _ h => h) _ _ hcs) hs
        · intro k _ hk
          exact setRow_other w g.blk k _ (hk hnil)
      · have hold : ∃ old, RcRowsL w Im rows s old ∧ old.length = rows.length * s ∧ (∀ v ∈ old, v.oneCell' = true) ∧ ∀ j v, old[j]? = some v → w.cell? ((⟨g.blk, 0, none⟩ : Addr).add j) = some v := by
          by_cases hne : rows = []
          · subst hne
            exact ⟨[], by simp [RcRowsL], by simp, by simp, by simp⟩
          · have h0 : 0 < rows.length := List.length_pos_iff.2 hne
            have hgs : g.sz = s := by
              have e1 := (RcRowsL_at _ _ _ 0 hrows h0).2
              have e2 := hrl (rows.getD 0 []) (by
                rw [show rows.getD 0 [] = rows[0] by simp [List.getD, h0]]
                exact List.getElem_mem h0)
              rw [← e1, e2]
            have hlen0 : cur.toList.length = g.cap * g.sz := by simpa using hcur
            refine ⟨cur.toList.take (rows.length * s), ?_, ?_, ?_, ?_⟩
            · have := RcRowsL_take _ _ _ [] hrows
              rw [hgs] at this
              simpa using this
            · rw [List.length_take, hlen0, hgs]
              exact Nat.min_eq_left (Nat.mul_le_mul_right _ hcap)
            · exact fun v hv => hcone v (List.mem_of_mem_take hv)
            · intro j v hj
              rw [Addr.add_lit]
              exact ((CellsAt.of_heap hheap).take _) j v hj
        obtain ⟨old, ho1, ho2, ho3, ho4⟩ := hold
        have hr := run_append_grow (P := P) w t ty e i z hu hi hz ⟨g.blk, 0, none⟩ rows.length g.cap old (by rw [ho2, hsi]) ho4 ⟨b, o, none⟩ nrows.length cap cs hl hnews (by omega) (by omega) (by rw [← hbi]; exact growslice_fits (by omega) hsz)
        obtain ⟨g1, g2, g3, g4, g5, g6⟩ := grown old 0 ho1 ho2 ho3 _ (grownCap w (rows.length + nrows.length) g.cap e) (grownCap_ge w _ _ _) (grownCap_le_maxLen w _ _ _ h63) rfl
        refine ⟨⟨w.heap.size, grownCap w (rows.length + nrows.length) g.cap e, s, false⟩, _, ?_, g1, g2, g3, g4, g5, fun k hk _ => g6 k hk, fun _ => .inr (Nat.le_refl _)⟩
        simpa [RowG.val, hnil] using hr
end
end Go.Proofs.Ytelolknpcmjdeaa
