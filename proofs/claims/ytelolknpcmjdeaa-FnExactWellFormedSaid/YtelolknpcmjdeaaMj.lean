/- The evaluator's steps as they are taken in a proof: states written out as lists. -/
import Derived.Test.YtelolknpcmjdeaaMi
namespace Go.Proofs.Ytelolknpcmjdeaa
open Go.RowKit

/-- slots written out -/
def mk : List (Nat × D) → Slots
  | [], _ => .any
  | (i, d) :: l, j => if j = i then d else mk l j
def mkT : List (Nat × Ent) → Tab
  | [], _ => none
  | (i, e) :: l, j => if j = i then some e else mkT l j
def scrP (id : Nat) : List (Nat × D) → List (Nat × D)
  | [] => []
  | (i, d) :: l => (i, scr id d) :: scrP id l
def scrT (id : Nat) : List (Nat × Ent) → List (Nat × Ent)
  | [] => []
  | (i, e) :: l => (i, e.scr id) :: scrT id l
/-- without a key -/
def del {α : Type} (x : Nat) : List (Nat × α) → List (Nat × α)
  | [] => []
  | (i, e) :: l => if i = x then del x l else (i, e) :: del x l
def args : Nat → List D → List (Nat × D)
  | _, [] => []
  | k, d :: ds => (k, d) :: args (k + 1) ds

theorem upd_mk (l : List (Nat × D)) (i : Nat) (d : D) : upd (mk l) i d = mk ((i, d) :: l) := by
  funext j; simp [upd, mk]
theorem mkT_del (x : Nat) : ∀ (l : List (Nat × Ent)) (j : Nat), mkT (del x l) j = if j = x then none else mkT l j
  | [], j => by simp [del, mkT]
  | (i, e) :: l, j => by
    have ih := mkT_del x l j
    simp only [del]
    by_cases h1 : i = x
    · rw [if_pos h1, ih]
      by_cases h2 : j = x
      · simp [h2]
      · simp [h2, mkT, show j ≠ i by omega]
    · rw [if_neg h1]
      simp only [mkT, ih]
      by_cases h2 : j = i
      · simp [h2, h1]
      · simp [h2]
theorem upd_mkT (l : List (Nat × Ent)) (i : Nat) (e : Ent) : upd (mkT l) i (some e) = mkT ((i, e) :: del i l) := by
  funext j
  simp only [upd, mkT, mkT_del]
  by_cases h : j = i <;> simp [h]
theorem del_nil {α : Type} (x : Nat) : del x ([] : List (Nat × α)) = [] := rfl
theorem del_cons {α : Type} (x i : Nat) (e : α) (l : List (Nat × α)) : del x ((i, e) :: l) = if i = x then del x l else (i, e) :: del x l := rfl
theorem scrS_mk (id : Nat) : ∀ (l : List (Nat × D)), scrS id (mk l) = mk (scrP id l)
  | [] => by funext j; simp [scrS, mk, scrP, scr]
  | (i, d) :: l => by
    funext j
    have := congrFun (scrS_mk id l) j
    simp only [scrS, mk, scrP] at this ⊢
    split
    · rfl
    · exact this
theorem scrM_mkT (id : Nat) : ∀ (l : List (Nat × Ent)), scrM id (mkT l) = mkT (scrT id l)
  | [] => by funext j; simp [scrM, mkT, scrT]
  | (i, e) :: l => by
    funext j
    have := congrFun (scrM_mkT id l) j
    simp only [scrM, mkT, scrT] at this ⊢
    split
    · rfl
    · exact this
theorem args_mk : ∀ (ds : List D) (k : Nat), (fun i => if i < k then .any else ds.getD (i - k) .any) = mk (args k ds)
  | [], k => by funext j; simp [args, mk]
  | d :: ds, k => by
    funext j
    have := congrFun (args_mk ds (k + 1)) j
    simp only [args, mk]
    rw [← this]
    rcases Nat.lt_trichotomy j k with h | h | h
    · simp [h, show j ≠ k by omega, show j < k + 1 by omega]
    · subst h; simp
    · have : j - k = (j - (k + 1)) + 1 := by omega
      simp [show ¬ j < k by omega, show j ≠ k by omega, show ¬ j < k + 1 by omega, this]
theorem init_mk (ds : List D) : (fun i => ds.getD i .any) = mk (args 0 ds) := by
  rw [← args_mk ds 0]; funext i; simp

theorem mk_nil (j : Nat) : mk [] j = .any := rfl
theorem mk_cons (i : Nat) (d : D) (l : List (Nat × D)) (j : Nat) : mk ((i, d) :: l) j = if j = i then d else mk l j := rfl
theorem mkT_nil (j : Nat) : mkT [] j = none := rfl
theorem mkT_cons (i : Nat) (e : Ent) (l : List (Nat × Ent)) (j : Nat) : mkT ((i, e) :: l) j = if j = i then some e else mkT l j := rfl
theorem scrP_nil (id : Nat) : scrP id [] = [] := rfl
theorem scrP_cons (id i : Nat) (d : D) (l : List (Nat × D)) : scrP id ((i, d) :: l) = (i, scr id d) :: scrP id l := rfl
theorem scrT_nil (id : Nat) : scrT id [] = [] := rfl
theorem scrT_cons (id i : Nat) (e : Ent) (l : List (Nat × Ent)) : scrT id ((i, e) :: l) = (i, e.scr id) :: scrT id l := rfl

theorem ldQ_mono {ti : TI} {cells : List D} {off : Nat} {K K' : D → Prop} (h : ∀ d, K d → K' d) (hq : ldQ ti cells off K) : ldQ ti cells off K' := by
  unfold ldQ at *
  split
  · rename_i hh; simp only [hh] at hq; exact ⟨hq.1, h _ hq.2⟩
  · rename_i hh; simp only [hh] at hq
  · rename_i h1 h2
    split at hq
    · rename_i hh; exact absurd hh (h1 _)
    · exact hq.elim
    · exact ⟨hq.1, h _ hq.2⟩
theorem load_mono {P : Program} {M : Tab} {ρ : Operand → D} {K K' : D → Prop} {t : TypeId} {x : Operand} (h : ∀ d, K d → K' d) (hq : qv P M ρ K (.load t x)) : qv P M ρ K' (.load t x) := by
  simp only [qv] at *
  split
  · rename_i hh; simp only [hh] at hq
    split
    · rename_i hM; simp only [hM] at hq; exact ⟨hq.1, ldQ_mono h hq.2⟩
    · rename_i hM; simp only [hM] at hq; exact ⟨hq.1, ldQ_mono h hq.2⟩
    · rename_i hM; simp only [hM] at hq
  · rename_i hh; simp only [hh] at hq; exact ldQ_mono h hq
  · rename_i h1 h2
    split at hq
    · rename_i hh; exact absurd hh (h1 _ _ _)
    · rename_i hh; exact absurd hh (h2 _ _)
    · exact hq
theorem resQ_mono {P : Program} {σ : Slots} {M : Tab} {K K' : List D → Prop} (h : ∀ ds, K ds → K' ds) : ∀ (l : List ResultVar), resQ P σ M l K → resQ P σ M l K' := by
  intro l
  induction l generalizing K K' with
  | nil => exact h []
  | cons x l ih =>
    intro hq
    cases x with
    | tmp t => simp only [resQ] at *; exact ih (fun ds hd => h _ hd) hq
    | cell t ty => simp only [resQ] at *; exact load_mono (fun d hd => ih (fun ds hds => h _ hds) hd) hq

/-- what comes behind a statement -/
def Then (P : Program) (n : Nat) (d : Code) (Q : Ex → Slots → Tab → Prop) : Ex → Slots → Tab → Prop
  | .normal, σ, M => Tr P n d Q σ M
  | .exit i, σ, M => Q (.exit i) σ M
  | .ret, σ, M => Q .ret σ M
def InBlk (id : Nat) (Q : Ex → Slots → Tab → Prop) : Ex → Slots → Tab → Prop
  | .normal, σ, M => Q .normal σ M
  | .exit i, σ, M => if i = id then Q .normal σ M else Q (.exit i) σ M
  | .ret, σ, M => Q .ret σ M
/-- the function's end -/
def Fin (P : Program) (rl : List ResultVar) (r : D) (rs : List (List (List D))) : Ex → Slots → Tab → Prop
  | .exit _, _, _ => False
  | _, σ, M => resQ P σ M rl fun ds => (∃ ids, OwnRes M ids (packD ds) r rs) ∨ (rs = [] ∧ r = view M (packD ds))
def condQ (d : D) (A B : Prop) : Prop :=
  match d with
  | .bool b => (b = true → A) ∧ (b = false → B)
  | _ => False

theorem imp_any {n : Nat} {σ σ' : Slots} {M : Tab} (h : ∀ i, σ' i = σ i ∨ σ' i = .any) : Imp n σ M σ' M := by
  rintro B0 X I0 w0 a w ⟨Im, β, hs⟩
  refine ⟨Im, β, { hs with slots := ?_, hi := ?_ }⟩
  · intro i hi
    rcases h i with e | e
    · rw [e]; exact hs.slots i hi
    · rw [e]; simp [Rv, Rc]
  · intro i hi
    rcases h i with e | e
    · rw [e]; exact hs.hi i hi
    · exact .inr e

section
variable {P : Program} {n : Nat} {σ : Slots} {M : Tab} {Q : Ex → Slots → Tab → Prop}

theorem acall_mk {f : FuncId} {fn : Func} {c : Code} {ds : List D} {r : D} {rs : List (List (List D))} {rl : List ResultVar} (hf : P.funcs[f]? = some fn) (hb : fn.body = some c) (hn : fn.ntmps = n) (hr : fn.results = rl.toArray) (hcal : callable P f = true) (hd : ds.length ≤ n)
    (h : Tr P n c (Fin P rl r rs) (mk (args 0 ds)) (mkT [])) : ACall P f ds r rs := by
  subst hn
  refine acall_of hf hb hcal hd ?_
  refine Tr.weak (imp_any (σ' := fun i => ds.getD i .any) fun i => ?_) ?_
  · by_cases hi : i < ds.length <;> simp [List.getD, hi]
  rw [init_mk]
  have : (fun (_ : Nat) => (none : Option Ent)) = mkT [] := by funext; rfl
  rw [this]
  refine h.mono ?_
  intro e σ M hq
  cases e with
  | exit i => exact hq.elim
  | _ => simpa only [RetOk, Fin, hr] using hq

theorem t_seq {c d : Code} (h : Tr P n c (Then P n d Q) σ M) : Tr P n (.seq c d) Q σ M :=
  Tr.seq (h.mono fun e σ M hq => by cases e <;> exact hq)
theorem k_seq {d : Code} (h : Tr P n d Q σ M) : Then P n d Q .normal σ M := h
theorem k_seqR {d : Code} (h : Q .ret σ M) : Then P n d Q .ret σ M := h
theorem k_seqX {d : Code} {i : Nat} (h : Q (.exit i) σ M) : Then P n d Q (.exit i) σ M := h
theorem t_block {id : Nat} {c : Code} (h : Tr P n c (InBlk id Q) σ M) : Tr P n (.block id c) Q σ M :=
  Tr.block (h.mono fun e σ M hq => by cases e <;> exact hq)
theorem k_blk {id : Nat} (h : Q .normal σ M) : InBlk id Q .normal σ M := h
theorem k_blkR {id : Nat} (h : Q .ret σ M) : InBlk id Q .ret σ M := h
theorem k_blkX {id : Nat} (h : Q .normal σ M) : InBlk id Q (.exit id) σ M := by simpa [InBlk] using h
theorem k_blkY {id i : Nat} (hi : (i == id) = false) (h : Q (.exit i) σ M) : InBlk id Q (.exit i) σ M := by
  simp only [InBlk]; rw [if_neg (by simpa using hi)]; exact h
theorem t_cond {c : Operand} {x y : Code} (h : ∀ A B : Prop, (Tr P n x Q σ M → A) → (Tr P n y Q σ M → B) → condQ (ev σ c) A B) : Tr P n (.cond c x y) Q σ M := by
  have := h _ _ id id
  unfold condQ at this
  split at this
  · rename_i b hb
    exact Tr.cond hb this.1 this.2
  · exact this.elim
theorem t_region {id : Nat} {ops : List Oper} (h : ∀ K : Slots → Tab → Prop, (∀ σ M, Q .normal σ M → K σ M) → aOps P n ops.toArray ops σ M K) : Tr P n (.region id ops.toArray false) Q σ M :=
  Tr.region (by simpa using h _ (fun _ _ h => h))
theorem o_nil {ops : Array Oper} {K : Slots → Tab → Prop} (h : K σ M) : aOps P n ops [] σ M K := h
theorem o_cons {ops : Array Oper} {dst : Option Tmp} {op : Op} {type : TypeId} {pos : String} {after : Array Edge} {guard : Option (Nat × Bool)} {rest : List Oper} {K : Slots → Tab → Prop}
    (h : ∀ K' : Slots → Tab → Prop, (∀ σ M, aOps P n ops rest σ M K → K' σ M) → guardQ ops σ guard (stp P n dst op σ M K') (skipQ n dst σ fun σ' => K' σ' M)) : aOps P n ops (⟨dst, op, type, pos, after, guard⟩ :: rest) σ M K :=
  h _ (fun _ _ h => h)
/-- an operation without a guard -/
theorem o_plain {ops : Array Oper} {dst : Option Tmp} {op : Op} {type : TypeId} {pos : String} {after : Array Edge} {rest : List Oper} {K : Slots → Tab → Prop}
    (h : ∀ K' : Slots → Tab → Prop, (∀ σ M, aOps P n ops rest σ M K → K' σ M) → stp P n dst op σ M K') : aOps P n ops (⟨dst, op, type, pos, after, none⟩ :: rest) σ M K :=
  h _ (fun _ _ h => h)
/-- one with a guard: the slot that it looks at -/
theorem o_guard {ops : Array Oper} {dst : Option Tmp} {op : Op} {type : TypeId} {pos : String} {after : Array Edge} {j : Nat} {want : Bool} {rest : List Oper} {K : Slots → Tab → Prop} (d : Nat) (hd : (ops[j]?).bind (·.dst) = some d)
    (h : ∀ A B : Prop, (aOps P n ops (⟨dst, op, type, pos, after, none⟩ :: rest) σ M K → A) → (skipQ n dst σ (fun σ' => aOps P n ops rest σ' M K) → B) → grdQ (σ d) want A B) :
    aOps P n ops (⟨dst, op, type, pos, after, some (j, want)⟩ :: rest) σ M K := by
  have := h _ _ id id
  simp only [aOps, guardQ, hd]
  simpa only [aOps, guardQ] using this
theorem g_yT {A B : Prop} (h : A) : grdQ (.bool true) true A B := ⟨fun _ => h, fun hh => absurd hh (by simp)⟩
theorem g_nF {A B : Prop} (h : B) : grdQ (.bool false) true A B := ⟨fun hh => absurd hh (by simp), fun _ => h⟩
theorem g_yF {A B : Prop} (h : A) : grdQ (.bool false) false A B := ⟨fun _ => h, fun hh => absurd hh (by simp)⟩
theorem g_nT {A B : Prop} (h : B) : grdQ (.bool true) false A B := ⟨fun hh => absurd hh (by simp), fun _ => h⟩
theorem g_nov {A B : Prop} {b : Bool} (h : B) : grdQ .nov b A B := h
theorem g_sT {A B : Prop} {b : Bool} (h : b = true → A) (h' : b = false → B) : grdQ (.bool b) true A B := ⟨h, h'⟩
theorem g_sF {A B : Prop} {b : Bool} (h : b = false → A) (h' : b = true → B) : grdQ (.bool b) false A B := ⟨h, h'⟩
theorem c_T {A B : Prop} (h : A) : condQ (.bool true) A B := ⟨fun _ => h, fun hh => absurd hh (by simp)⟩
theorem c_F {A B : Prop} (h : B) : condQ (.bool false) A B := ⟨fun hh => absurd hh (by simp), fun _ => h⟩
theorem c_s {A B : Prop} {b : Bool} (h : b = true → A) (h' : b = false → B) : condQ (.bool b) A B := ⟨h, h'⟩
theorem fin_closed {rl : List ResultVar} {r : D} (h : resQ P σ M rl fun ds => r = view M (packD ds)) : Fin P rl r [] .ret σ M ∧ Fin P rl r [] .normal σ M := by
  have : resQ P σ M rl fun ds => (∃ ids, OwnRes M ids (packD ds) r []) ∨ (([] : List (List (List D))) = [] ∧ r = view M (packD ds)) := resQ_mono (fun ds hd => .inr ⟨rfl, hd⟩) rl h
  exact ⟨this, this⟩
theorem fin_own {rl : List ResultVar} {r : D} {rs : List (List (List D))} (ids : List Nat) (h : resQ P σ M rl fun ds => OwnRes M ids (packD ds) r rs) : Fin P rl r rs .ret σ M ∧ Fin P rl r rs .normal σ M := by
  have : resQ P σ M rl fun ds => (∃ ids, OwnRes M ids (packD ds) r rs) ∨ (rs = [] ∧ r = view M (packD ds)) := resQ_mono (fun ds hd => .inl ⟨ids, hd⟩) rl h
  exact ⟨this, this⟩
theorem skip_some {d : Nat} {K : Slots → Prop} (h : d < n) (hk : K (upd σ d .nov)) : skipQ n (some d) σ K := ⟨h, hk⟩
end
end Go.Proofs.Ytelolknpcmjdeaa
