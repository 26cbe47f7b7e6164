/- One operation: what the evaluator makes of it, and that it is right. -/
import Derived.Test.YtelolknpcmjdeaaMf
namespace Go.Proofs.Ytelolknpcmjdeaa
open Go.RowKit

abbrev Slots := Nat → D
abbrev Tab := Nat → Option Ent

/-- the rows of a slice literal, all parts given in their order -/
def partsQ (es : Nat) : Nat → List (Nat × D) → (List (List D) → Prop) → Prop
  | _, [], K => K []
  | k, (i, d) :: rest, K =>
    match flat d with
    | some cs => i = k ∧ cs.length = es ∧ cs.all one = true ∧ cloL cs = true ∧ partsQ es (k + 1) rest fun rs => K (cs :: rs)
    | none => False

def storeQ (P : Program) (M : Tab) (t : TypeId) (x y : D) (K : Tab → Prop) : Prop :=
  match x, flat y with
  | .ptr id i off, some cs =>
    (tI P t).size ≠ 0 ∧ cs.length = (tI P t).size ∧ cs.all one = true ∧
    match M id with
    | some (.box cells) => i = 0 ∧ off + cs.length ≤ cells.length ∧ K (upd M id (some (.box (lay cells off cs))))
    | some (.row rows) => i < rows.length ∧ off + cs.length ≤ (rows.getD i []).length ∧ cloL cs = true ∧ K (upd M id (some (.row (rows.set i (lay (rows.getD i []) off cs)))))
    | none => False
  | _, _ => False

def appendQ (P : Program) (M : Tab) (σ : Slots) (d : Nat) (t : TypeId) (x y : D) (K : Slots → Tab → Prop) : Prop :=
  match (tI P t).d with
  | .slice _ es eb ez =>
    es ≠ 0 ∧ ez.length = es ∧ ez.all one = true ∧
    ∃ news, rowsOf M y = some news ∧ RowLen news es ∧
    match x with
    | .fs id =>
      ∃ rows, M id = some (.row rows) ∧ RowLen rows es ∧ (rows.length + news.length) * eb ≤ 140737488355328 ∧ rows.length + news.length ≤ 9223372036854775807 ∧
        K (upd (scrS id σ) d (.fs id)) (upd (scrM id M) id (some (.row (rows ++ news))))
    | .nl => news.length * eb ≤ 140737488355328 ∧ news.length ≤ 9223372036854775807 ∧ K (upd (scrS d σ) d (.fs d)) (upd (scrM d M) d (some (.row news)))
    | _ => False
  | _ => False

def callQ (P : Program) (M : Tab) (σ : Slots) (d : Nat) (f : FuncId) (xs : List D) (K : Slots → Tab → Prop) : Prop :=
  ∃ r rs, (ACall P f (viewL M xs) r rs ∧ noPtr r = true ∧ (noFsL xs = true ∨ (noSl r = true ∧ ∀ rows ∈ rs, FlatRows rows))) ∧ K (upd (addS d 0 rs σ) d (ren d r)) (addM d 0 rs M)

/-- ONE OPERATION. -/
def stp (P : Program) (n : Nat) (dst : Option Tmp) (op : Op) (σ : Slots) (M : Tab) (K : Slots → Tab → Prop) : Prop :=
  match dst with
  | none => match op with
    | .store t x y => storeQ P M t (ev σ x) (ev σ y) fun M' => K σ M'
    | _ => False
  | some d =>
    d < n ∧
    match op with
    | .alloc t => (tI P t).zero ≠ [] ∧ (tI P t).zero.all one = true ∧ K (upd (scrS d σ) d (.ptr d 0 0)) (upd (scrM d M) d (some (.box (tI P t).zero)))
    | .box _ x => match flat (ev σ x) with
      | some cs => cs.all one = true ∧ K (upd (scrS d σ) d (.ptr d 0 0)) (upd (scrM d M) d (some (.box (scrL d cs))))
      | none => False
    | .buildSlice t len parts =>
      match (tI P t).d with
      | .slice _ es _ ez => es ≠ 0 ∧ ez.length = es ∧ len = parts.size ∧ len * es ≤ 16777216 ∧ partsQ es 0 (parts.toList.map fun p => (p.1, ev σ p.2)) fun rows => K (upd (scrS d σ) d (.fs d)) (upd (scrM d M) d (some (.row rows)))
      | _ => False
    | .makeSlice t l c =>
      match (tI P t).d, ev σ l, ev σ c with
      | .slice _ es eb ez, .int _ m, .int _ m' => es ≠ 0 ∧ ez.length = es ∧ ez.all one = true ∧ cloL ez = true ∧ m' = m ∧ 0 ≤ m ∧ (eb : Int) * m ≤ 281474976710656 ∧ m ≤ 9223372036854775807 ∧
          K (upd (scrS d σ) d (.fs d)) (upd (scrM d M) d (some (.row (List.replicate m.toNat ez))))
      | _, _, _ => False
    | .call c =>
      match c.callee with
      | .builtin .append =>
        match c.args.toList, c.argTypes.toList with
        | [x, y], [t, t'] => t' = t ∧ appendQ P M σ d t (ev σ x) (ev σ y) K
        | _, _ => False
      | .value (.func f) => callQ P M σ d f (c.args.toList.map (ev σ)) K
      | _ => qv P M (ev σ) (fun r => K (upd σ d r) M) (.call c)
    | op => qv P M (ev σ) (fun r => K (upd σ d r) M) op

section
variable {B0 : Nat} {X I0 : Nat → Prop} {w0 : World} {n : Nat} {Im : Nat → Prop} {β : Nat → RowG} {σ : Nat → D} {M : Nat → Option Ent} {a : Act} {w : World} {P : Program}

theorem RvL_evs (h : StG B0 X I0 w0 n Im β σ M a w) : ∀ (xs : List Operand), RvL w Im β M (xs.map (ev σ)) (xs.map a.eval)
  | [] => by simp [RvL]
  | x :: xs => by simp only [List.map_cons, RvL]; exact ⟨_, _, rfl, h.ev x, RvL_evs h xs⟩

/-- what is left to say once an operation has run -/
def Goal (P : Program) (B0 : Nat) (X I0 : Nat → Prop) (w0 : World) (n : Nat) (o : Oper) (a : Act) (w : World) (K : Slots → Tab → Prop) : Prop :=
  ∀ (K' : Act → World → Prop) (Q : Exit → Act → World → Prop), (∀ σ M a w, St B0 X I0 w0 n σ M a w → K σ M → K' a w) → o.wp P a w K' Q

theorem goal_value {o : Oper} {K : Slots → Tab → Prop} {v : Value} {w' : World} {σ' : Slots} {M' : Tab} (hr : (execOp a.eval o).run P w = .ok (.value v) w') (hs : St B0 X I0 w0 n σ' M' (a.put o.dst v) w') (hk : K σ' M') : Goal P B0 X I0 w0 n o a w K := by
  intro K' Q h
  unfold Oper.wp
  rw [hr]
  exact h _ _ _ _ hs hk

theorem EntOk_set {w' : World} {g : RowG} {rows : List (List D)} {i : Nat} {cur : Array Value} (hi : i < rows.length) {cs : List D} {us : List Value} {off : Nat} (hr : RcRowsL w Im rows g.sz cur.toList) (hu : RcL w Im cs us) (hoff : off + cs.length ≤ (rows.getD i []).length)
    (hc : ∀ b o, Im b → w'.cell? ⟨b, o, none⟩ = w.cell? ⟨b, o, none⟩) :
    RcRowsL w' Im (rows.set i (lay (rows.getD i []) off cs)) g.sz (cur.toList.take (i * g.sz + off) ++ us ++ cur.toList.drop (i * g.sz + off + us.length)) := by
  have hul := RcL_length _ _ hu
  generalize cur.toList = l at hr ⊢
  induction rows generalizing i l with
  | nil => simp at hi
  | cons r rs ih =>
    simp only [RcRowsL] at hr
    obtain ⟨c, rest, rfl, h1, h2, h3⟩ := hr
    match i with
    | 0 =>
      simp only [List.getD_cons_zero] at hoff ⊢
      have hrl : c.length = r.length := RcL_length _ _ h2
      simp only [List.set_cons_zero, Nat.zero_mul, Nat.zero_add, RcRowsL]
      refine ⟨c.take off ++ us ++ c.drop (off + us.length), rest, ?_, ?_, ?_, RcRowsL_mono hc (fun _ h => h) _ _ _ h3⟩
      · rw [List.take_append_of_le_length (by omega), List.drop_append_of_le_length (by omega)]
        simp
      · simp only [List.length_append, List.length_take, List.length_drop]
        omega
      · unfold lay
        have key : RcL w Im (r.take off ++ cs ++ r.drop (off + cs.length)) (c.take off ++ us ++ c.drop (off + cs.length)) := by
          have tk : ∀ (k : Nat) (ds : List D) (vs : List Value), RcL w Im ds vs → RcL w Im (ds.take k) (vs.take k) := by
            intro k
            induction k with
            | zero => intros; simp [RcL]
            | succ k ihk =>
              intro ds vs h
              cases ds with
              | nil => simp [RcL] at h; simp [RcL, h]
              | cons d ds => simp only [RcL] at h; obtain ⟨v, t, rfl, e1, e2⟩ := h; simp only [List.take_succ_cons, RcL]; exact ⟨v, _, rfl, e1, ihk _ _ e2⟩
          have dk : ∀ (k : Nat) (ds : List D) (vs : List Value), RcL w Im ds vs → RcL w Im (ds.drop k) (vs.drop k) := by
            intro k
            induction k with
            | zero => intro ds vs h; simpa using h
            | succ k ihk =>
              intro ds vs h
              cases ds with
              | nil => simp [RcL] at h; simp [RcL, h]
              | cons d ds => simp only [RcL] at h; obtain ⟨v, t, rfl, e1, e2⟩ := h; simpa using ihk _ _ e2
          exact RcL_append _ _ _ _ (RcL_append _ _ _ _ (tk _ _ _ h2) hu) (dk _ _ _ h2)
        rw [hul]
        exact RcL_mono hc (fun _ h => h) _ _ key
    | i + 1 =>
      simp only [List.getD_cons_succ, List.set_cons_succ] at hoff ⊢
      simp only [RcRowsL]
      have ih' := ih (i := i) (by simpa using hi) hoff rest h3
      refine ⟨c, rest.take (i * g.sz + off) ++ us ++ rest.drop (i * g.sz + off + us.length), ?_, h1, RcL_mono hc (fun _ h => h) _ _ h2, ih'⟩
      have e1 : (i + 1) * g.sz + off = c.length + (i * g.sz + off) := by rw [h1, Nat.add_mul]; omega
      rw [e1, Nat.add_assoc c.length, List.take_length_add_append, List.drop_length_add_append]
      simp

theorem store_sound (h : StG B0 X I0 w0 n Im β σ M a w) {t : TypeId} {x y : Operand} {K : Tab → Prop} (hq : storeQ P M t (ev σ x) (ev σ y) K) :
    ∃ w' M', (Instr.storeAt t (a.eval x) (a.eval y)).run P w = .ok () w' ∧ StG B0 X I0 w0 n Im β σ M' a w' ∧ K M' := by
  unfold storeQ at hq
  split at hq
  · rename_i id i off cs hx hy
    obtain ⟨hz, h1, h2, hq⟩ := hq
    have hxv := h.ev x
    rw [hx] at hxv
    simp only [Rv] at hxv
    obtain ⟨hs, hn, hxv⟩ := hxv
    have hyv := flat_cells (h.ev y) hy
    have hone := allOne hyv h2
    have hyl := RvL_length _ _ hyv
    have hsz : (a.eval y).cells.size = (tI P t).size := by rw [← h1, ← hyl]; simp
    have hrunSt : ∀ (cur : Array Value) (ty : TypeId), w.heap[(β id).blk]? = some (.cells cur ty (0, 0)) → i * (β id).sz + off + (a.eval y).cells.size ≤ cur.size →
        (Instr.storeAt t (a.eval x) (a.eval y)).run P w = .ok () (w.setRow (β id).blk (cur.toList.take (i * (β id).sz + off) ++ (a.eval y).cells.toList ++ cur.toList.drop (i * (β id).sz + off + (a.eval y).cells.toList.length)).toArray) := by
      intro cur ty hheap hle
      have hst := run_storeCells_at P (β id).blk (i * (β id).sz + off) ty (a.eval y).cells.toList 0 cur w hheap (by simpa using hle) hone
      simp only [Nat.add_zero] at hst
      have hz' : ((P.info? t).map (·.size)).getD 0 ≠ 0 := hz
      obtain ⟨it, hit, hits⟩ := info_of_size hz'
      have e0 : (a.eval y).cells.size = it.size := by rw [hsz]; exact hits
      rw [hxv]
      simp [Instr.storeAt, Instr.sureAddr, storeVar, Go.sizeOf, typeInfo, hit, e0, hst]
    split at hq
    · rename_i cells hM
      obtain ⟨rfl, h3, h4⟩ := hq
      have hok := h.tab id _ hM
      simp only [EntOk] at hok
      obtain ⟨_, hnim, cur, ty, hheap, hco, hcv⟩ := hok
      have hcl := RvL_length _ _ hcv
      have hcl' : cur.size = cells.length := by rw [← hcl]; simp
      have hys : (a.eval y).cells.size = cs.length := by rw [← hyl]; simp
      refine ⟨_, _, hrunSt cur ty hheap (by rw [hys, hcl']; simpa using h3), h.store hM (by rfl) hn _ ?_, h4⟩
      intro w' hc hh
      simp only [EntOk]
      refine ⟨hn, hnim, _, ty, hh cur ty hheap, ?_, ?_⟩
      · intro v hv
        simp only [List.mem_append] at hv
        rcases hv with (hv | hv) | hv
        · exact hco v (List.mem_of_mem_take hv)
        · exact hone v hv
        · exact hco v (List.mem_of_mem_drop hv)
      · have hag : Agree β β M (upd M id (some (.box (lay cells off cs)))) := by
          intro j hj
          refine ⟨rfl, ?_, ?_⟩
          · by_cases e : j = id
            · subst e; simp [upd_same]
            · rw [upd_ne _ _ e]; exact hj
          · by_cases e : j = id
            · subst e; simp [upd_same, hM, Ent.len]
            · rw [upd_ne _ _ e]
        have := RvL_set cells off cs _ _ (RvL_mono hc (fun _ h => h) hag _ _ hcv) (RvL_mono hc (fun _ h => h) hag _ _ hyv) h3
        simpa using this
    · rename_i rows hM
      obtain ⟨h3, h4, h5, h6⟩ := hq
      have hok := h.tab id _ hM
      simp only [EntOk] at hok
      rcases hok with ⟨h7, _⟩ | ⟨_, hnim, hcap, hcm, cur, ty, hheap, hcs, hco, hrows⟩
      · rw [hn] at h7; cases h7
      · have hrow := RcRowsL_at _ _ _ i hrows h3
        have hys : (a.eval y).cells.size = cs.length := by rw [← hyl]; simp
        have hfit : i * (β id).sz + off + (a.eval y).cells.size ≤ cur.size := by
          rw [hys, hcs]
          rw [hrow.2] at h4
          have : i * (β id).sz + (β id).sz ≤ (β id).cap * (β id).sz := by
            rw [← Nat.succ_mul]; exact Nat.mul_le_mul_right _ (by omega)
          omega
        refine ⟨_, _, hrunSt cur ty hheap hfit, h.store hM (by simp [Ent.len]) hn _ ?_, h6⟩
        intro w' hc hh
        simp only [EntOk]
        refine .inr ⟨hn, hnim, by simpa using hcap, ⟨hcm.1, fun hh' => ?_⟩, _, ty, hh cur ty hheap, ?_, ?_, ?_⟩
        · have : rows = [] := by simpa using hh'
          subst this; simp at h3
        · have : cur.toList.length = (β id).cap * (β id).sz := by simpa using hcs
          simp only [List.size_toArray, List.length_append, List.length_take, List.length_drop, this, Array.length_toList]
          omega
        · intro v hv
          simp only [List.mem_append] at hv
          rcases hv with (hv | hv) | hv
          · exact hco v (List.mem_of_mem_take hv)
          · exact hone v hv
          · exact hco v (List.mem_of_mem_drop hv)
        · simpa using EntOk_set (g := β id) h3 hrows (RcL_of_clo _ _ h5 hyv) h4 hc
    · exact hq.elim
  · exact hq.elim

theorem madeCells_flatten (z : Array Value) (m : Nat) : (madeCells z (m * z.size)).toList = (List.replicate m z.toList).flatten := by
  unfold madeCells
  rw [Array.toList_map, Array.toList_range]
  induction m with
  | zero => simp
  | succ m ih =>
    rw [Nat.succ_mul, List.range_add, List.map_append, ih, List.replicate_succ', List.flatten_append]
    congr 1
    simp only [List.map_map, List.flatten_cons, List.flatten_nil, List.append_nil]
    apply List.ext_getElem
    · simp
    · intro j h1 h2
      have hj : j < z.size := by simpa using h1
      have e1 : (m * z.size + j) % z.size = j := by rw [Nat.mul_comm, Nat.mul_add_mod]; exact Nat.mod_eq_of_lt hj
      simp [e1, hj]

theorem RcRowsL_replicate {ez : List D} {zs : List Value} (hz : RcL w Im ez zs) : ∀ m, RcRowsL w Im (List.replicate m ez) zs.length (List.replicate m zs).flatten
  | 0 => by simp [RcRowsL]
  | m + 1 => by
    simp only [List.replicate_succ, List.flatten_cons, RcRowsL]
    exact ⟨zs, _, rfl, rfl, hz, RcRowsL_replicate hz m⟩

/-- a new row of the call's own -/
theorem newRow_sound (h : StG B0 X I0 w0 n Im β σ M a w) {d : Nat} {rows : List (List D)} {cells : Array Value} {e : TypeId} {s : Nat} (hs : cells.size = rows.length * s) (hl : rows.length ≤ maxLen) (ho : ∀ v ∈ cells.toList, v.oneCell' = true) (hr : RcRowsL w Im rows s cells.toList) :
    ∃ β', StG B0 X I0 w0 n Im β' (scrS d σ) (upd (scrM d M) d (some (.row rows))) a (w.alloc (.cells cells e)) ∧
      Rv (w.alloc (.cells cells e)) Im β' (upd (scrM d M) d (some (.row rows))) (.fs d) (.slice (some ⟨w.heap.size, 0, none⟩) rows.length rows.length) := by
  have hc : ∀ b o, Im b → (w.alloc (.cells cells e)).cell? ⟨b, o, none⟩ = w.cell? ⟨b, o, none⟩ := fun b o hb => World.cell?_of_block (w := w) (heap_alloc_below w _ b (h.im b hb))
  refine ⟨upd β d ⟨w.heap.size, rows.length, s, false⟩, ?_, ?_⟩
  · refine h.setEnt d ⟨w.heap.size, rows.length, s, false⟩ (.row rows) rfl rfl rfl (by simp) (fun k hk _ => heap_alloc_below w _ k hk) ?_ (fun _ => .inr ⟨h.base, fun j e hj hn _ => Nat.ne_of_lt (h.blk_lt hj hn)⟩)
    simp only [EntOk]
    exact .inr ⟨trivial, fun hi => Nat.lt_irrefl _ (h.im _ hi), Nat.le_refl _, ⟨hl, fun hh => by simp [hh]⟩, cells, e, heap_alloc_new w _, hs, ho, RcRowsL_mono hc (fun _ h => h) _ _ _ hr⟩
  · simp [Rv, upd_same, Ent.len, RowG.val]

theorem parts_sound (h : StG B0 X I0 w0 n Im β σ M a w) {es : Nat} : ∀ (ps : List (Nat × Operand)) (k : Nat) (KK : List (List D) → Prop) (pre rest : List Value), partsQ es k (ps.map fun p => (p.1, ev σ p.2)) KK → pre.length = k * es → rest.length = ps.length * es →
    ∃ rows cs, Instr.fill (fun i => some (i * es, es)) (pre ++ rest).toArray (ps.map fun p => (p.1, a.eval p.2)) = some (pre ++ cs).toArray ∧ RcRowsL w Im rows es cs ∧ cs.length = rows.length * es ∧ rows.length = ps.length ∧ (∀ v ∈ cs, v.oneCell' = true) ∧ KK rows
  | [], k, KK, pre, rest, hq, h1, h2 => by
    simp only [List.map_nil, partsQ] at hq
    have : rest = [] := List.eq_nil_of_length_eq_zero (by simpa using h2)
    subst this
    exact ⟨[], [], by simp [Instr.fill], by simp [RcRowsL], by simp, rfl, by simp, hq⟩
  | (i, x) :: ps, k, KK, pre, rest, hq, h1, h2 => by
    simp only [List.map_cons, partsQ] at hq
    split at hq
    · rename_i cs hfl
      obtain ⟨rfl, h3, h4, h5, h6⟩ := hq
      have hv := flat_cells (h.ev x) hfl
      have hvl := RvL_length _ _ hv
      have hsz : (a.eval x).cells.size = es := by rw [← h3, ← hvl]; simp
      have hsz' : (a.eval x).cells.toList.length = es := by simpa using hsz
      simp only [List.length_cons, Nat.add_mul] at h2
      obtain ⟨rows, ds, g1, g2, g3, g4, g5, g6⟩ := parts_sound h ps (i + 1) _ (pre ++ (a.eval x).cells.toList) (rest.drop es) h6 (by simp only [List.length_append, hsz', h1, Nat.add_mul]; omega) (by rw [List.length_drop]; omega)
      refine ⟨cs :: rows, (a.eval x).cells.toList ++ ds, ?_, ?_, ?_, ?_, ?_, g6⟩
      · simp only [List.map_cons, Instr.fill]
        have hcond : (decide ((a.eval x).cells.size ≠ es) || decide (i * es + (a.eval x).cells.size > (pre ++ rest).toArray.size)) = false := by
          simp [hsz]; omega
        rw [if_neg (by rw [hcond]; simp)]
        rw [← List.append_assoc, ← g1]
        congr 1
        apply Array.ext'
        have := foldl_lay (a.eval x).cells.toList 0 (i * es) (pre ++ rest).toArray (by simp; omega)
        rw [← Array.foldl_toList, Array.toList_zipIdx]
        simp only [Nat.add_zero] at this
        rw [this]
        have e1 : (pre ++ rest).toArray.toList.take (i * es) = pre := by simp [← h1]
        have e2 : (pre ++ rest).toArray.toList.drop (i * es + (a.eval x).cells.toList.length) = rest.drop es := by
          rw [hsz', ← h1]
          simp only [List.drop_length_add_append]
        rw [e1, e2]
      · simp only [RcRowsL]
        exact ⟨_, ds, rfl, hsz', RcL_of_clo _ _ h5 hv, g2⟩
      · simp only [List.length_append, hsz', g3, List.length_cons, Nat.add_mul]; omega
      · simp [g4]
      · intro v hvv
        rcases List.mem_append.1 hvv with hvv | hvv
        · exact allOne hv h4 v hvv
        · exact g5 v hvv
    · exact hq.elim

theorem zeros_RcL {zs : List Value} (hc : cloL (zs.map cD) = true) : RcL w Im (zs.map cD) zs := by
  induction zs with
  | nil => simp [RcL]
  | cons v zs ih =>
    simp only [List.map_cons, cloL, Bool.and_eq_true] at hc
    simp only [List.map_cons, RcL]
    exact ⟨v, zs, rfl, Rc_of_clo (β := fun _ => ⟨0, 0, 0, true⟩) (M := fun _ => none) _ _ hc.1 (Rv_cD v), ih hc.2⟩

theorem stp_sound (h : StG B0 X I0 w0 n Im β σ M a w) {o : Oper} {K : Slots → Tab → Prop} (hq : stp P n o.dst o.op σ M K) : Goal P B0 X I0 w0 n o a w K := by
  obtain ⟨dst, op, type, pos, after, guard⟩ := o
  simp only at hq
  unfold stp at hq
  split at hq
  · -- no destination
    split at hq
    · rename_i t x y
      obtain ⟨w', M', h1, h2, h3⟩ := store_sound h hq
      intro K' Q hk
      unfold Oper.wp
      simp only [execOp, Sem.run_bind, h1, Result.andThen_ok]
      exact hk _ _ _ _ ⟨Im, β, by simpa [Act.put] using h2⟩ h3
    · exact hq.elim
  · rename_i d
    obtain ⟨hd, hq⟩ := hq
    have quiet : ∀ {op' : Op}, op = op' → qv P M (ev σ) (fun r => K (upd σ d r) M) op' → Goal P B0 X I0 w0 n ⟨some d, op, type, pos, after, guard⟩ a w K := by
      rintro _ rfl hq
      obtain ⟨v, r, h1, h2, h3⟩ := qv_sound (o := ⟨some d, op, type, pos, after, guard⟩) h hq
      exact goal_value h1 ⟨Im, β, h.put hd h2⟩ h3
    split at hq
    · rename_i t
      obtain ⟨h1, h2, h3⟩ := hq
      obtain ⟨it, z, hit, hz, hzz⟩ : ∃ it z, P.info? t = some it ∧ it.zero = some z ∧ (tI P t).zero = z.cells.toList.map cD := by
        cases hit : P.info? t with
        | none => simp [tI, zerosOf, hit] at h1
        | some it =>
          cases hz : it.zero with
          | none => simp [tI, zerosOf, hit, hz] at h1
          | some z => exact ⟨it, z, rfl, hz, by simp [tI, zerosOf, hit, hz]⟩
      have hz0 : ∀ (β : Nat → RowG) (M : Tab), RvL w Im β M (z.cells.toList.map cD) z.cells.toList := by
        intro β M
        generalize z.cells.toList = l
        induction l with
        | nil => simp [RvL]
        | cons v l ih => simp only [List.map_cons, RvL]; exact ⟨v, l, rfl, Rv_cD v, ih⟩
      have hsc : scrL d (z.cells.toList.map cD) = z.cells.toList.map cD := by
        generalize z.cells.toList = l
        induction l with
        | nil => rfl
        | cons v l ih =>
          simp only [List.map_cons, scrL, ih]
          congr 1
          unfold cD
          split <;> rfl
      rw [hzz] at h2 h3
      obtain ⟨β', h4, h5⟩ := box_sound (t := t) (d := d) (v := z) h (hz0 _ _) h2
      rw [hsc] at h4 h5
      refine goal_value (v := .pointer (some ⟨w.heap.size, 0, none⟩)) (w' := w.alloc (.cells z.cells t)) ?_ ⟨Im, β', h4.put hd h5⟩ h3
      simp [execOp, Instr.alloc, newVar, newRow, zeroValue, typeInfo, hit, hz]
    · rename_i t x
      split at hq
      · rename_i cs hfl
        obtain ⟨h1, h2⟩ := hq
        obtain ⟨β', h3, h4⟩ := box_sound (t := t) (d := d) h (flat_cells (h.ev x) hfl) h1
        refine goal_value (v := .pointer (some ⟨w.heap.size, 0, none⟩)) (w' := w.alloc (.cells (a.eval x).cells t)) ?_ ⟨Im, β', h3.put hd h4⟩ h2
        simp [execOp, Instr.box, newVar, newRow]
      · exact hq.elim
    · rename_i t len parts
      split at hq
      · rename_i e es eb ez htd
        obtain ⟨h1, h2, rfl, h4, h5⟩ := hq
        obtain ⟨hu, hes, heb, hez⟩ := tI_slice htd
        have hes0 := h1
        rw [hes] at hes0
        obtain ⟨i, hi, hisz⟩ := info_of_size hes0
        have hsi : es = i.size := by rw [hes, hisz]
        obtain ⟨z, hz⟩ : ∃ z, i.zero = some z := by
          cases hz : i.zero with
          | none => simp [zerosOf, hi, hz] at hez; subst hez; simp at h2; omega
          | some z => exact ⟨z, rfl⟩
        have main : ∀ (rest : List Value), rest.length = parts.toList.length * es →
            (∀ cs : List Value, Instr.fill (fun i => some (i * es, es)) rest.toArray (parts.toList.map fun p => (p.1, a.eval p.2)) = some cs.toArray → (Instr.buildSlice t parts.size (parts.map fun (i, x) => (i, a.eval x))).run P w = .ok (.slice (some ⟨w.heap.size, 0, none⟩) parts.size parts.size) (w.alloc (.cells cs.toArray e))) →
            Goal P B0 X I0 w0 n ⟨some d, .buildSlice t parts.size parts, type, pos, after, guard⟩ a w K := by
          intro rest hrest hrun
          obtain ⟨rows, cs, g1, g2, g3, g4, g5, g6⟩ := parts_sound h parts.toList 0 _ [] rest h5 (by simp) hrest
          simp only [List.nil_append] at g1
          have hps : rows.length = parts.size := by rw [g4]; simp
          obtain ⟨β', h6, h7⟩ := newRow_sound (d := d) (e := e) (s := es) (cells := cs.toArray) h (by simpa using g3) (by rw [hps]; have : parts.size * 1 ≤ parts.size * es := Nat.mul_le_mul_left _ (by omega); unfold maxLen; omega) (by simpa using g5) (by simpa using g2)
          rw [hps] at h7
          refine goal_value (v := .slice (some ⟨w.heap.size, 0, none⟩) parts.size parts.size) (w' := w.alloc (.cells cs.toArray e)) ?_ ⟨Im, β', h6.put hd h7⟩ g6
          simp only [execOp, Sem.run_bind, hrun cs g1, Result.andThen_ok]
          rfl
        by_cases h0 : parts.size * i.size = 0
        · have hp0 : parts.size = 0 := by
            rcases Nat.mul_eq_zero.1 h0 with h0 | h0
            · exact h0
            · omega
          refine main [] (by simp [hp0]) ?_
          intro cs hcs
          have hparts : parts = #[] := Array.eq_empty_of_size_eq_zero hp0
          subst hparts
          simp [Instr.fill] at hcs
          subst hcs
          simp [Instr.buildSlice, run_underlying hu, Go.sizeOf, typeInfo, hi, Instr.fill, newRow, Array.range_zero']
        · refine main ((Array.range (parts.size * i.size)).map (z.cells[· % z.cells.size]!)).toList (by simp [hsi]) ?_
          intro cs hcs
          rw [Array.toArray_toList] at hcs
          refine run_buildSlice w t e parts.size _ cs.toArray i z hu hi hz ?_ h0 ?_
          · rw [← hsi]; omega
          · rw [← hsi]
            simpa [hsi] using hcs
      · exact hq.elim
    · rename_i t l c
      split at hq
      · rename_i e es eb ez k m k' m' htd hl hc
        obtain ⟨h1, h2, h3, h3', rfl, h4, h5, h6, h7⟩ := hq
        obtain ⟨hu, hes, heb, hez⟩ := tI_slice htd
        have hes0 := h1
        rw [hes] at hes0
        obtain ⟨i, hi, hisz⟩ := info_of_size hes0
        have hsi : es = i.size := by rw [hes, hisz]
        have hbi : eb = i.bytes := by rw [heb, hi]; simp
        obtain ⟨z, hz, hzz⟩ : ∃ z, i.zero = some z ∧ ez = z.cells.toList.map cD := by
          cases hz : i.zero with
          | none => simp [zerosOf, hi, hz] at hez; subst hez; simp at h2; omega
          | some z => simp [zerosOf, hi, hz] at hez; exact ⟨z, rfl, hez⟩
        subst hzz
        have hzs : z.cells.size = i.size := by simp at h2; rw [← hsi]; exact h2
        have hlv := h.ev l
        rw [hl] at hlv
        simp only [Rv, Rc] at hlv
        have hcv := h.ev c
        rw [hc] at hcv
        simp only [Rv, Rc] at hcv
        have hr := run_make (P := P) w t e i z hu hi hz k k' m' m' h4 (Int.le_refl _) (by rw [← hbi]; exact h5) h6
        have hzc := zeros_RcL (w := w) (Im := Im) h3'
        have hrows := RcRowsL_replicate hzc m'.toNat
        have hmade := madeCells_flatten z.cells m'.toNat
        rw [hzs] at hmade
        have hone : ∀ v ∈ z.cells.toList, v.oneCell' = true := allOne (β := β) (M := M) (RvL_of_RcL _ _ hzc) h3
        obtain ⟨β', g1, g2⟩ := newRow_sound (d := d) (e := e) (s := z.cells.toList.length) (rows := List.replicate m'.toNat (z.cells.toList.map cD)) (cells := madeCells z.cells (m'.toNat * i.size)) h (by rw [size_madeCells]; simp [hzs]) (by simp only [List.length_replicate, maxLen]; omega) (by
          rw [hmade]
          intro v hv
          obtain ⟨l', hl', hv'⟩ := List.mem_flatten.1 hv
          rw [(List.mem_replicate.1 hl').2] at hv'
          exact hone v hv') (by rw [hmade]; exact hrows)
        simp only [List.length_replicate] at g2
        refine goal_value (v := .slice (some ⟨w.heap.size, 0, none⟩) m'.toNat m'.toNat) (w' := w.alloc (.cells (madeCells z.cells (m'.toNat * i.size)) e)) ?_ ⟨Im, β', g1.put hd g2⟩ h7
        simp only [execOp, hlv, hcv, Sem.run_bind, hr, Result.andThen_ok]
        rfl
      · exact hq.elim
    · rename_i c
      split at hq
      · rename_i hcal'
        split at hq
        · rename_i x y t t' hargs hts
          obtain ⟨rfl, hq⟩ := hq
          obtain ⟨callee, args, ts⟩ := c
          simp only at hcal' hargs hts
          subst hcal'
          have ea : args = #[x, y] := Array.toList_inj.1 (by simpa using hargs)
          have et : ts = #[t', t'] := Array.toList_inj.1 (by simpa using hts)
          subst ea et
          have hrun : ∀ {v : Value} {w' : World}, (Builtin.append_ #[t', t'] type #[a.eval x, a.eval y]).run P w = .ok v w' → (execOp a.eval ⟨some d, .call ⟨.builtin .append, #[x, y], #[t', t']⟩, type, pos, after, guard⟩).run P w = .ok (.value v) w' := by
            intro v w' hr
            simp [execOp, resolve, invoke, builtin, hr]
          unfold appendQ at hq
          split at hq
          · rename_i e es eb ez htd
            obtain ⟨h1, h2, h3, news, h4, h5, hq⟩ := hq
            obtain ⟨ad, cap, hyv, _, hnew⟩ := rows_at h (h.ev y) h4
            split at hq
            · rename_i id hx
              obtain ⟨rows, hM, h6, h7, h8, h9⟩ := hq
              have hxv := h.ev x
              rw [hx] at hxv
              simp only [Rv, hM, Option.bind_some, Ent.len, Option.some.injEq] at hxv
              obtain ⟨m, rfl, hxv⟩ := hxv
              obtain ⟨g', w', r1, r2, r3, r4, r5, r6, r7, r8⟩ := append_ent (ty := type) htd h1 h2 h3 (h.tab id _ hM) h.im h6 (ad := ad) (cap := cap) hnew h5 h7 (by unfold maxLen; omega)
              have hst := h.setEnt (w' := w') id g' (.row (rows ++ news)) r3 r4 r5 r6 (fun k hk hkk => r7 k hk (fun hn => hkk (by simp [hM]) hn)) (r2 _ _) (by
                intro hn
                rcases r8 hn with ⟨e1, e2⟩ | e1
                · exact .inl ⟨by simp [hM], e1, e2⟩
                · exact .inr ⟨Nat.le_trans h.base e1, fun j e' hj hnj _ he => by have := h.blk_lt hj hnj; omega⟩)
              refine goal_value (hrun (by rw [hxv, hyv]; exact r1)) ⟨Im, _, hst.put hd ?_⟩ h9
              simp [Rv, upd_same, Ent.len]
            · rename_i hx
              obtain ⟨h6, h7, h8⟩ := hq
              have hxv := h.ev x
              rw [hx] at hxv
              simp only [Rv, Rc] at hxv
              have hok : EntOk w Im β M ⟨0, 0, es, true⟩ (.row []) := by simp only [EntOk]; exact .inl ⟨trivial, trivial⟩
              obtain ⟨g', w', r1, r2, r3, r4, r5, r6, r7, r8⟩ := append_ent (ty := type) htd h1 h2 h3 hok h.im (by intro r hr; cases hr) (ad := ad) (cap := cap) hnew h5 (by simpa using h6) (by simp only [List.length_nil, Nat.zero_add]; unfold maxLen; omega)
              simp only [List.length_nil, Nat.zero_add, List.nil_append] at r1 r2
              have hst := h.setEnt (w' := w') d g' (.row news) r3 r4 r5 r6 (fun k hk _ => r7 k hk (fun hn => by cases hn)) (r2 _ _) (by
                intro hn
                rcases r8 hn with ⟨e1, e2⟩ | e1
                · cases e1
                · exact .inr ⟨Nat.le_trans h.base e1, fun j e' hj hnj _ he => by have := h.blk_lt hj hnj; omega⟩)
              refine goal_value (v := g'.val news.length) (w' := w') (hrun (by rw [hxv, hyv]; exact r1)) ⟨Im, _, hst.put hd ?_⟩ h8
              simp [Rv, upd_same, Ent.len]
            · exact hq.elim
          · exact hq.elim
        · exact hq.elim
      · rename_i f hcal'
        obtain ⟨callee, args, ts⟩ := c
        simp only at hcal' hq
        subst hcal'
        obtain ⟨r, rs, ⟨h1, h2, h3⟩, h4⟩ := hq
        have hc := call_sound h (RvL_evs h args.toList) h1 h2 h3 d
        have hcl := h1.1
        intro K' Q hk
        have hrun : (execOp a.eval ⟨some d, .call ⟨.value (.func f), args, ts⟩, type, pos, after, guard⟩).run P w = .ok (.enter f (args.map a.eval)) w := by
          unfold callable at hcl
          cases hf : P.funcs[f]? with
          | none => rw [hf] at hcl; cases hcl
          | some fn =>
            rw [hf] at hcl
            simp only [Bool.and_eq_true, bne_iff_ne, ne_eq] at hcl
            obtain ⟨hn, hb⟩ := hcl
            obtain ⟨b, hb⟩ := Option.isSome_iff_exists.1 hb
            simp [execOp, resolve, Act.eval, Deferred.ofValue, invoke, callFunc, hf, hn, hb]
        unfold Oper.wp
        rw [hrun]
        simp only [Oper.upon]
        have e1 : (args.toList.map a.eval).toArray = args.map a.eval := by
          apply Array.toList_inj.1; simp
        rw [e1] at hc
        refine hc.mono ?_
        rintro e w' ⟨v, Im', β', rfl, h5, h6⟩
        exact hk _ _ _ _ ⟨Im', β', h5.put hd h6⟩ h4
      · exact quiet rfl hq
    · exact quiet rfl hq
end
end Go.Proofs.Ytelolknpcmjdeaa
