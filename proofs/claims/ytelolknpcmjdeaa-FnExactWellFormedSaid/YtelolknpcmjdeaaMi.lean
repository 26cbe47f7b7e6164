/- Whole functions; giving up what is not wanted any more. -/
import Derived.Test.YtelolknpcmjdeaaMh
namespace Go.Proofs.Ytelolknpcmjdeaa
open Go.RowKit

def resQ (P : Program) (σ : Slots) (M : Tab) : List ResultVar → (List D → Prop) → Prop
  | [], K => K []
  | .tmp t :: r, K => resQ P σ M r fun ds => K (σ t :: ds)
  | .cell t ty :: r, K => qv P M (ev σ) (fun d => resQ P σ M r fun ds => K (d :: ds)) (.load ty (.tmp t))

def packD : List D → D
  | [d] => d
  | ds => .tup ds

mutual
def back (ids : List Nat) : D → D
  | .fs k => .fs (ids.getD k 0)
  | .agg cs => .agg (backL ids cs)
  | .tup cs => .tup (backL ids cs)
  | .ptr id i off => .ptr id i off
  | .int k n => .int k n
  | .bool b => .bool b
  | .str s => .str s
  | .nov => .nov
  | .any => .any
  | .nl => .nl
  | .sl rows => .sl rows
  | .ep row off => .ep row off
def backL (ids : List Nat) : List D → List D
  | [] => []
  | d :: ds => back ids d :: backL ids ds
end
mutual
def fsLt (n : Nat) : D → Bool
  | .fs k => decide (k < n)
  | .agg cs => fsLtL n cs
  | .tup cs => fsLtL n cs
  | .ptr .. => false
  | _ => true
def fsLtL (n : Nat) : List D → Bool
  | [] => true
  | d :: ds => fsLt n d && fsLtL n ds
end

/-- what the function hands back is what its contract says: new rows by their ids -/
def OwnRes (M : Tab) (ids : List Nat) (d r : D) (rs : List (List (List D))) : Prop :=
  d = back ids r ∧ fsLt rs.length r = true ∧ ids.Nodup ∧ ids.map M = rs.map fun rows => some (.row rows)

section
variable {B0 : Nat} {X I0 : Nat → Prop} {w0 : World} {n : Nat} {Im : Nat → Prop} {β : Nat → RowG} {σ : Nat → D} {M : Nat → Option Ent} {a : Act} {w : World} {P : Program}

theorem ids_at {ids : List Nat} {rs : List (List (List D))} (h : ids.map M = rs.map fun rows => some (.row rows)) {k : Nat} {rows : List (List D)} (hk : rs[k]? = some rows) : M (ids.getD k 0) = some (.row rows) ∧ k < ids.length := by
  have hl : ids.length = rs.length := by simpa using congrArg List.length h
  have hlt : k < rs.length := (List.getElem?_eq_some_iff.1 hk).1
  have h1 : (ids.map M)[k]? = (rs.map fun rows => some (.row rows))[k]? := by rw [h]
  rw [List.getElem?_map, List.getElem?_map, hk] at h1
  have hik : k < ids.length := by omega
  simp [hik] at h1
  exact ⟨by simpa [List.getD, hik] using h1, hik⟩

mutual
theorem Rv_back {ids : List Nat} {rs : List (List (List D))} (h : ids.map M = rs.map fun rows => some (.row rows)) : ∀ (r : D) (v : Value), fsLt rs.length r = true → Rv w Im β M (back ids r) v → Rv w Im (fun k => β (ids.getD k 0)) (tabOf rs) r v
  | .int .., _, _, hv | .bool _, _, _, hv | .str _, _, _, hv | .nov, _, _, hv | .any, _, _, hv | .nl, _, _, hv | .sl _, _, _, hv | .ep .., _, _, hv => by simpa only [Rv, back] using hv
  | .ptr .., _, hf, _ => by simp [fsLt] at hf
  | .fs k, v, hf, hv => by
    simp only [fsLt, decide_eq_true_eq] at hf
    simp only [Rv, back] at hv ⊢
    obtain ⟨m, h1, rfl⟩ := hv
    obtain ⟨rows, hk⟩ : ∃ rows, rs[k]? = some rows := ⟨_, List.getElem?_eq_getElem hf⟩
    rw [(ids_at h hk).1] at h1
    exact ⟨m, by simpa [tabOf, hk] using h1, rfl⟩
  | .agg cs, v, hf, hv => by
    simp only [Rv, back, fsLt] at hv hf ⊢
    obtain ⟨x, rfl, hv⟩ := hv
    exact ⟨x, rfl, RvL_back h cs x hf hv⟩
  | .tup cs, v, hf, hv => by
    simp only [Rv, back, fsLt] at hv hf ⊢
    obtain ⟨x, rfl, hv⟩ := hv
    exact ⟨x, rfl, RvL_back h cs x hf hv⟩
theorem RvL_back {ids : List Nat} {rs : List (List (List D))} (h : ids.map M = rs.map fun rows => some (.row rows)) : ∀ (ds : List D) (vs : List Value), fsLtL rs.length ds = true → RvL w Im β M (backL ids ds) vs → RvL w Im (fun k => β (ids.getD k 0)) (tabOf rs) ds vs
  | [], _, _, hv => by simpa [RvL, backL] using hv
  | d :: ds, vs, hf, hv => by
    simp only [RvL, backL, fsLtL, Bool.and_eq_true] at hv hf ⊢
    obtain ⟨v, r, rfl, h1, h2⟩ := hv
    exact ⟨v, r, rfl, Rv_back h d v hf.1 h1, RvL_back h ds r hf.2 h2⟩
end

theorem res_own (h : StG B0 (fun _ => False) I0 w0 n Im β σ M a w) {ids : List Nat} {d r : D} {rs : List (List (List D))} {v : Value} (hv : Rv w Im β M d v) (hr : OwnRes M ids d r rs) : Res B0 I0 w r rs v := by
  obtain ⟨rfl, h1, h2, h3⟩ := hr
  refine ⟨Im, fun k => β (ids.getD k 0), fun b hb => (h.imo b hb).imp id (·.resolve_right fun h => h), h.im, Rv_back h3 r v h1 hv, ?_, ?_⟩
  · intro k rows hk
    have hM := (ids_at h3 hk).1
    refine ⟨by simpa only [EntOk] using h.tab _ _ hM, fun hn => ?_⟩
    exact (h.own _ _ hM hn).resolve_right (fun h => h)
  · intro k k' hk hk' hn hn' he
    obtain ⟨rows, e1⟩ : ∃ rows, rs[k]? = some rows := ⟨_, List.getElem?_eq_getElem hk⟩
    obtain ⟨rows', e2⟩ : ∃ rows, rs[k']? = some rows := ⟨_, List.getElem?_eq_getElem hk'⟩
    obtain ⟨m1, l1⟩ := ids_at h3 e1
    obtain ⟨m2, l2⟩ := ids_at h3 e2
    have heq := h.inj _ _ (by rw [m1]; rfl) (by rw [m2]; rfl) hn hn' he
    simp only [List.getD, List.getElem?_eq_getElem l1, List.getElem?_eq_getElem l2, Option.getD_some] at heq
    rcases Nat.lt_trichotomy k k' with hlt | he' | hlt
    · exact absurd heq (List.pairwise_iff_getElem.1 h2 k k' l1 l2 hlt)
    · exact he'
    · exact absurd heq.symm (List.pairwise_iff_getElem.1 h2 k' k l2 l1 hlt)

/-- what is handed back closed: whatever rows of the call's own are in it are only read from now on -/
theorem res_closed (h : StG B0 (fun _ => False) I0 w0 n Im β σ M a w) {d : D} {v : Value} (hv : Rv w Im β M d v) : Res B0 I0 w (view M d) [] v := by
  let Im2 : Nat → Prop := fun b => Im b ∨ ∃ id, (M id).isSome = true ∧ (β id).nil = false ∧ b = (β id).blk
  have h2 : ∀ b, Im2 b → b < w.heap.size := by
    rintro b (hb | ⟨id, hs, hn, rfl⟩)
    · exact h.im b hb
    · obtain ⟨e, he⟩ := Option.isSome_iff_exists.1 hs
      exact h.blk_lt he hn
  have key : (∀ (d : D) (v : Value), Rv w Im β M d v → Rc w Im2 (view M d) v) := by
    have hrow : ∀ id rows, M id = some (.row rows) → Rc w Im2 (.sl rows) ((β id).val rows.length) := fun id rows hM =>
      Rc_of_rows (fun _ hb => .inl hb) (fun hn => .inr ⟨id, by simp [hM], hn, rfl⟩) (h.tab id _ hM)
    intro d v hv
    exact Rc_viewG (fun _ hb => .inl hb) hrow d v hv
  refine ⟨Im2, fun _ => ⟨0, 0, 0, true⟩, ?_, h2, Rv_of_Rc _ _ (key d v hv), by simp, by simp⟩
  rintro b (hb | ⟨id, hs, hn, rfl⟩)
  · exact (h.imo b hb).imp id (·.resolve_right fun h => h)
  · obtain ⟨e, he⟩ := Option.isSome_iff_exists.1 hs
    exact .inr ((h.own id e he hn).resolve_right (fun h => h))

def RetOk (P : Program) (fn : Func) (r : D) (rs : List (List (List D))) (e : Ex) (σ : Slots) (M : Tab) : Prop :=
  match e with
  | .exit _ => False
  | _ => resQ P σ M fn.results.toList fun ds => (∃ ids, OwnRes M ids (packD ds) r rs) ∨ (rs = [] ∧ r = view M (packD ds))

def resOne (tmps : Array Value) : ResultVar → Sem Value
  | .tmp t => pure (tmps.getD t undef)
  | .cell x t => do loadVar t (← asAddr (tmps.getD x undef))
theorem results_eq (fn : Func) (tmps : Array Value) : results fn tmps = (do let vs ← fn.results.mapM (resOne tmps); pure (if h : vs.size = 1 then vs[0] else .tuple vs)) := by
  unfold results
  have : (fun (x : ResultVar) => (match x with | .tmp t => pure (tmps.getD t undef) | .cell a t => do loadVar t (← asAddr (tmps.getD a undef)) : Sem Value)) = resOne tmps := by
    funext x; cases x <;> rfl
  rw [← this]
  rfl

theorem res_sound (h : StG B0 X I0 w0 n Im β σ M a w) : ∀ (l : List ResultVar) (K : List D → Prop), resQ P σ M l K → ∃ ds vs, (l.mapM (resOne a.tmps)).run P w = .ok vs w ∧ RvL w Im β M ds vs ∧ K ds
  | [], K, hq => ⟨[], [], by simp, by simp [RvL], hq⟩
  | .tmp t :: r, K, hq => by
    simp only [resQ] at hq
    obtain ⟨ds, vs, h1, h2, h3⟩ := res_sound h r _ hq
    have hv := h.ev (.tmp t)
    refine ⟨_ :: ds, a.tmps.getD t undef :: vs, ?_, by simp only [RvL]; exact ⟨_, _, rfl, hv, h2⟩, h3⟩
    simp only [List.mapM_cons, resOne, Sem.run_bind, Sem.run_pure, Result.andThen_ok, h1]
  | .cell t ty :: r, K, hq => by
    simp only [resQ] at hq
    obtain ⟨v, d, h1, h2, h3⟩ := qv_sound (o := ⟨none, .load ty (.tmp t), 0, "", #[], none⟩) h hq
    obtain ⟨ds, vs, h4, h5, h6⟩ := res_sound h r _ h3
    refine ⟨d :: ds, v :: vs, ?_, by simp only [RvL]; exact ⟨_, _, rfl, h2, h5⟩, h6⟩
    have h1' : (asAddr (a.tmps.getD t undef) >>= loadVar ty).run P w = .ok v w := by
      simp only [execOp, Instr.loadAt, Act.eval, Sem.run_bind] at h1
      rw [Sem.run_bind]
      cases hx : a.tmps.getD t undef with
      | pointer p =>
        rw [hx] at h1
        cases p with
        | none => simp [Instr.sureAddr, stuck] at h1
        | some ad =>
          simp only [Instr.sureAddr, Sem.run_pure, Result.andThen_ok] at h1
          simp only [asAddr, Sem.run_pure, Result.andThen_ok]
          cases hl : (loadVar ty ad).run P w with
          | ok u w' =>
            rw [hl] at h1
            simp only [Result.andThen_ok, Result.ok.injEq, Next.value.injEq] at h1
            obtain ⟨rfl, rfl⟩ := h1
            rfl
          | halt x w' => rw [hl] at h1; simp at h1
      | _ => rw [hx] at h1; simp [Instr.sureAddr, stuck] at h1
    simp only [List.mapM_cons, resOne]
    rw [Sem.run_bind, h1']
    simp only [Result.andThen_ok, Sem.run_bind, h4, Sem.run_pure]

/-- FROM THE BODY TO THE CONTRACT. -/
theorem acall_of {f : FuncId} {fn : Func} {c : Code} {ds : List D} {r : D} {rs : List (List (List D))} (hf : P.funcs[f]? = some fn) (hb : fn.body = some c) (hcal : callable P f = true) (hn : ds.length ≤ fn.ntmps)
    (h : Tr P fn.ntmps c (RetOk P fn r rs) (fun i => ds.getD i .nov) (fun _ => none)) : ACall P f ds r rs := by
  refine ⟨hcal, fun w vs Im him hvs => ?_⟩
  have hlen := RcL_length _ _ hvs
  have hst : St w.heap.size (fun _ => False) Im w fn.ntmps (fun i => ds.getD i .nov) (fun _ => none) { tmps := vs.toArray ++ Array.replicate (fn.ntmps - vs.toArray.size) undef, defers := [] } w := by
    refine ⟨Im, fun _ => ⟨0, 0, 0, true⟩, { defers := rfl, size := ?_, slots := ?_, hi := ?_, im := him, tab := by simp, own := by simp, inj := by simp, base := Nat.le_refl _, fr := Fr.refl _ _ _, imo := fun b hb => .inl hb }⟩
    · simp [hlen]; omega
    · intro i hi
      rcases Nat.lt_or_ge i ds.length with hlt | hge
      · have h1 : ds[i]? = some (ds.getD i .nov) := by simp [List.getD, hlt]
        have : ∀ (ds : List D) (vs : List Value) (j : Nat) (d : D), RcL w Im ds vs → ds[j]? = some d → ∃ v, vs[j]? = some v ∧ Rc w Im d v := by
          intro ds
          induction ds with
          | nil => intro vs j d _ hj; simp at hj
          | cons x ds ih =>
            intro vs j d hh hj
            simp only [RcL] at hh
            obtain ⟨v, t, rfl, e1, e2⟩ := hh
            match j with
            | 0 => simp at hj; subst hj; exact ⟨v, by simp, e1⟩
            | j + 1 => obtain ⟨u, e3, e4⟩ := ih t j d e2 (by simpa using hj); exact ⟨u, by simpa using e3, e4⟩
        obtain ⟨v, h2, h3⟩ := this _ _ i _ hvs h1
        have hiv : i < vs.length := by omega
        have h4 : (vs.toArray ++ Array.replicate (fn.ntmps - vs.toArray.size) undef).getD i undef = v := by
          simp [Array.getElem?_append, hiv]
          simpa [hiv] using h2
        rw [h4]
        exact Rv_of_Rc _ _ h3
      · have h1 : ds.getD i .nov = .nov := by simp [List.getD, hge]
        rw [h1]
        have h4 : (vs.toArray ++ Array.replicate (fn.ntmps - vs.toArray.size) undef).getD i undef = undef := by
          simp [Array.getElem?_append, show ¬ i < vs.length by omega]
          simp only [Array.getElem?_replicate]
          split <;> rfl
        rw [h4]
        simp [Rv, Rc]
    · intro i hi
      simp [List.getD, show ds.length ≤ i by omega]
  refine calls_of_wp hf hb (wp_mono (h _ _ _ _ _ _ hst) ?_)
  rintro e a' w' ⟨x, σ', M', ⟨Im', β', hg⟩, hq, hx⟩
  have main : resQ P σ' M' fn.results.toList (fun ds => (∃ ids, OwnRes M' ids (packD ds) r rs) ∨ (rs = [] ∧ r = view M' (packD ds))) → a'.defers = [] ∧ ∃ v, (results fn a'.tmps).run P w' = .ok v w' ∧ ∃ v', Ending.returned v = .returned v' ∧ Below w.heap.size w w' ∧ Res w.heap.size Im w' r rs v' := by
    intro hr
    refine ⟨hg.defers, ?_⟩
    obtain ⟨ds', vs', h1, h2, h3⟩ := res_sound hg _ _ hr
    have hrun : (results fn a'.tmps).run P w' = .ok (if h : vs'.toArray.size = 1 then vs'.toArray[0] else .tuple vs'.toArray) w' := by
      rw [results_eq, Array.mapM_eq_mapM_toList]
      simp only [Sem.run_bind, Sem.run_map, Sem.run_pure]
      rw [h1]
      simp
    have hv : Rv w' Im' β' M' (packD ds') (if h : vs'.toArray.size = 1 then vs'.toArray[0] else .tuple vs'.toArray) := by
      have hl := RvL_length _ _ h2
      match ds', vs', h2, hl with
      | [d], [v], h2, _ =>
        simp only [RvL] at h2
        obtain ⟨u, t, e1, e2, e3⟩ := h2
        cases e1
        simpa [packD] using e2
      | [], [], h2, _ => simp only [packD, Rv]; exact ⟨[], by simp, by simp [RvL]⟩
      | d :: d' :: ds, v :: v' :: vs, h2, _ => simp only [packD, Rv]; exact ⟨v :: v' :: vs, by simp, h2⟩
    refine ⟨_, hrun, _, rfl, ?_, ?_⟩
    · exact ⟨hg.fr.os, hg.fr.tape, hg.fr.output, hg.fr.size, fun k hk => hg.fr.block k hk (fun h => h)⟩
    · rcases h3 with ⟨ids, ho⟩ | ⟨rfl, rfl⟩
      · exact res_own hg hv ho
      · exact res_closed hg hv
  cases x with
  | exit id => simp [RetOk] at hq
  | normal => simp only at hx; subst hx; simp only [bodyPost]; exact main hq
  | ret => simp only at hx; subst hx; simp only [bodyPost]; exact main hq
end
end Go.Proofs.Ytelolknpcmjdeaa
