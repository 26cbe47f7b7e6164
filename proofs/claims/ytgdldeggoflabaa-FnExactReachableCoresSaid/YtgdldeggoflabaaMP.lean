/- The evaluator: short words for its steps, calls that hand variables over. -/
import Derived.Test.YtgdldeggoflabaaMN
/- Short words for the steps of the proofs: what a step asks is proved by itself. -/
namespace Go.Proofs.Ytgdldeggoflabaa
open Go.RowKit
set_option linter.unusedVariables false
/-- one way on -/
class Go1 (A : Prop) (B : outParam Prop) : Prop where
  h : B → A
/-- two ways on -/
class Go2 (A : Prop) (B C : outParam Prop) : Prop where
  h : B → C → A
theorem go {A B : Prop} [i : Go1 A B] (b : B) : A := i.h b
theorem go2 {A B C : Prop} [i : Go2 A B C] (b : B) (c : C) : A := i.h b c
theorem takeL_all : ∀ {α : Type} (l : List α), l.take l.length = l := fun _ => List.take_length
theorem setL_set : ∀ {α : Type} (l : List α) (n : Nat) (a b : α), (l.set n a).set n b = l.set n b := fun l n a b => List.set_set ..
theorem lenL_set : ∀ {α : Type} (l : List α) (n : Nat) (a : α), (l.set n a).length = l.length := fun l n a => List.length_set
theorem beqI_self : ∀ (a : Int), (a == a) = true := fun a => beq_self_eq_true a
theorem bneI_self : ∀ (a : Int), (a != a) = false := fun a => bne_self_eq_false a
theorem lenL_app : ∀ {α : Type} (l m : List α), (l ++ m).length = l.length + m.length := fun l m => List.length_append
theorem fx (b : Bool) : (true && b) = b := Bool.true_and b
section
variable {P : Program} {n : Nat} {σ : Slots} {M : Tab} {Q : Ex → Slots → Tab → Prop}
instance {c d : Code} : Go1 (Tr P n (.seq c d) Q σ M) (Tr P n c (Then P n d Q) σ M) := ⟨t_seq⟩
instance {id : Nat} {c : Code} : Go1 (Tr P n (.block id c) Q σ M) (Tr P n c (InBlk id Q) σ M) := ⟨t_block⟩
instance : Go1 (Tr P n .skip Q σ M) (Q .normal σ M) := ⟨Tr.skip⟩
instance : Go1 (Tr P n .ret Q σ M) (Q .ret σ M) := ⟨Tr.ret⟩
instance {id : Nat} : Go1 (Tr P n (.exit id) Q σ M) (Q (.exit id) σ M) := ⟨Tr.exit⟩
instance {d : Code} : Go1 (Then P n d Q .normal σ M) (Tr P n d Q σ M) := ⟨k_seq⟩
instance {d : Code} : Go1 (Then P n d Q .ret σ M) (Q .ret σ M) := ⟨k_seqR⟩
instance {d : Code} {i : Nat} : Go1 (Then P n d Q (.exit i) σ M) (Q (.exit i) σ M) := ⟨k_seqX⟩
instance {id : Nat} : Go1 (InBlk id Q .normal σ M) (Q .normal σ M) := ⟨k_blk⟩
instance {id : Nat} : Go1 (InBlk id Q .ret σ M) (Q .ret σ M) := ⟨k_blkR⟩
instance {id : Nat} : Go1 (InBlk id Q (.exit id) σ M) (Q .normal σ M) := ⟨k_blkX⟩
section
variable {α : Type} {S : α → List (Nat × D)} {T : α → List (Nat × Ent)} {I : α → Prop} {μ : α → Nat} {k : Nat}
instance {i : Nat} : Go1 (Rnd n Q S T I μ k (.exit i) σ M) (Q (.exit i) σ M) := ⟨k_rndX⟩
instance : Go1 (Rnd n Q S T I μ k .ret σ M) (Q .ret σ M) := ⟨k_rndR⟩
end
instance {A B : Prop} : Go1 (grdQ (.bool true) true A B) A := ⟨g_yT⟩
instance {A B : Prop} : Go1 (grdQ (.bool false) true A B) B := ⟨g_nF⟩
instance {A B : Prop} : Go1 (grdQ (.bool false) false A B) A := ⟨g_yF⟩
instance {A B : Prop} : Go1 (grdQ (.bool true) false A B) B := ⟨g_nT⟩
instance {A B : Prop} {b : Bool} : Go1 (grdQ .nov b A B) B := ⟨g_nov⟩
instance {A B : Prop} : Go1 (condQ (.bool true) A B) A := ⟨c_T⟩
instance {A B : Prop} : Go1 (condQ (.bool false) A B) B := ⟨c_F⟩
instance {A B : Prop} {b : Bool} : Go2 (grdQ (.bool b) true A B) (b = true → A) (b = false → B) := ⟨g_sT⟩
instance {A B : Prop} {b : Bool} : Go2 (grdQ (.bool b) false A B) (b = false → A) (b = true → B) := ⟨g_sF⟩
instance {A B : Prop} {b : Bool} : Go2 (condQ (.bool b) A B) (b = true → A) (b = false → B) := ⟨c_s⟩
theorem bY {id i : Nat} (h : Q (.exit i) σ M) (hi : (i == id) = false := by decide) : InBlk id Q (.exit i) σ M := k_blkY hi h
theorem skS {d : Nat} {K : Slots → Prop} (hk : K (upd σ d .nov)) (h : d < n := by decide) : skipQ n (some d) σ K := skip_some h hk
theorem tdr {id : Nat} {l : List Oper} (h : ∀ K : Slots → Prop, (∀ σ, Q .normal σ M → K σ) → hOps P n M l.toArray l σ K) (hm : P.follows .mixedOrders = true := by kernel_rfl) (hB : Region.lexB .any l.toArray = true := by kernel_rfl) : Tr P n (.region id l.toArray true) Q σ M := t_draw hm hB h
/-! operations -/
/-- an operation: what is asked of it (S), what is behind it (H), what it is (B) -/
class Gp (A : Prop) (κ : outParam Type) (H B : outParam (κ → Prop)) (S : outParam Prop) : Prop where
  h : S → (∀ K, H K → B K) → A
theorem gp {A : Prop} {κ : Type} {H B R : κ → Prop} {S : Prop} [i : Gp A κ H B S] (h : ∀ K, H K → R K) (e : ∀ K, R K → B K := by intro KK r; simp only [stp, hv, qv, ev, cD, scr, scrL, Ent.scr, flat, one, binQ, ldQ, storeQ, lay, Nat.reduceLT, Nat.reduceLeDiff, Nat.reduceAdd, Nat.reduceEqDiff, Nat.reduceMul, Nat.reduceSub, reduceIte, reduceCtorEq, fillQ, bne_iff_ne, Nat.reduceBNe, Nat.reduceBEq, rowsOf, cloL, clo, exists_eq_left', exists_and_left, appendQ, partsQ, Int.cast_ofNat_Int, Int.reduceBEq, Int.reduceBNe, Int.reduceLT, Int.reduceLE, Int.reduceEq, Int.reduceNe, Int.reduceAdd, Int.reduceSub, Int.reduceNeg, Int.reduceToNat, decide_true, decide_false, ne_eq, not_false_eq_true, true_and, and_true, Nat.add_zero, Nat.zero_add, Nat.not_lt_zero, Bool.not_true, Bool.not_false, Int.le_refl, bA, bB, callQ, viewL, view, noFsL, noFs, intsOf, Option.map_some, bT, gx, fx]; exact r)
    (s : S := by first | trivial | decide | exact ⟨by decide, rfl⟩ | exact ⟨.inl rfl, by decide, rfl⟩ | exact ⟨.inr ⟨rfl, rfl⟩, by decide, rfl⟩) : A := i.h s fun K hk => e K (h K hk)
/-- a guard -/
class Gd (A : Prop) (ops : outParam (Array Oper)) (σ : outParam Slots) (j : outParam Nat) (w : outParam Bool) (X Y : outParam Prop) : Prop where
  h : ∀ d, (ops[j]?).bind (·.dst) = some d → (∀ A B : Prop, (X → A) → (Y → B) → grdQ (σ d) w A B) → A
theorem gd {A : Prop} {ops : Array Oper} {σ : Slots} {j : Nat} {w : Bool} {X Y : Prop} {R : Prop → Prop → Prop} {d : Nat} [i : Gd A ops σ j w X Y] (h : ∀ A B : Prop, (X → A) → (Y → B) → R A B) (hd : (ops[j]?).bind (·.dst) = some d := by rfl)
    (e : ∀ A B, R A B → grdQ (σ d) w A B := by intro A B r; simp only [bA, ev, cD, Nat.reduceEqDiff, reduceIte, fx]; exact r) : A := i.h d hd fun A B hA hB => e A B (h A B hA hB)
class Gc (A : Prop) (σ : outParam Slots) (c : outParam Operand) (X Y : outParam Prop) : Prop where
  h : (∀ A B : Prop, (X → A) → (Y → B) → condQ (ev σ c) A B) → A
theorem tc {A : Prop} {σ : Slots} {c : Operand} {X Y : Prop} {R : Prop → Prop → Prop} [i : Gc A σ c X Y] (h : ∀ A B : Prop, (X → A) → (Y → B) → R A B)
    (e : ∀ A B, R A B → condQ (ev σ c) A B := by intro A B r; simp only [bA, ev, cD, Nat.reduceEqDiff, reduceIte, fx]; exact r) : A := i.h fun A B hA hB => e A B (h A B hA hB)
section
variable {ops : Array Oper} {dst : Option Tmp} {t : Nat} {op : Op} {type : TypeId} {pos : String} {after : Array Edge} {rest : List Oper} {KS : Slots → Prop}
instance {K : Slots → Tab → Prop} : Gp (aOps P n ops (⟨dst, op, type, pos, after, none⟩ :: rest) σ M K) (Slots → Tab → Prop) (fun K' => ∀ σ M, aOps P n ops rest σ M K → K' σ M) (fun K' => stp P n dst op σ M K') True := ⟨fun _ h => o_plain h⟩
instance : Gp (hOps P n M ops (⟨some t, op, type, pos, after, none⟩ :: rest) σ KS) (D → Prop) (fun K' => ∀ d, hOps P n M ops rest (upd σ t d) KS → K' d) (fun K' => hv P M (ev σ) K' op) (t < n) := ⟨fun hd h => h_plain hd h⟩
instance : Gp (hOps P n M ops (⟨none, op, type, pos, after, none⟩ :: rest) σ KS) (D → Prop) (fun K' => ∀ d, hOps P n M ops rest σ KS → K' d) (fun K' => hv P M (ev σ) K' op) True := ⟨fun _ h => h_none h⟩
instance {m : Nat} : Gp (hOps P n M ops (List.take (m + 1) (⟨some t, op, type, pos, after, none⟩ :: rest)) σ KS) (D → Prop) (fun K' => ∀ d, hOps P n M ops (List.take m rest) (upd σ t d) KS → K' d) (fun K' => hv P M (ev σ) K' op) (t < n) := ⟨fun hd h => ht_plain hd h⟩
instance {y : List (Nat × Ent)} {K : Slots × Prv → Prop} : Gp (gOps (machX P n M ops) (⟨some t, op, type, pos, after, none⟩ :: rest) (σ, mkT y) K) (D → Prop) (fun K' => ∀ d, gOps (machX P n M ops) rest (upd σ t d, mkT y) K → K' d) (fun K' => hv P M (ev σ) K' op) (t < n ∧ mkT y t = none) := ⟨fun s h => x_plain s.1 s.2 h⟩
instance {c : Nat} {y : List (Nat × Ent)} {K : Slots × Prv → Prop} : Gp (gOps (machX P n M ops) (List.take (c + 1) (⟨some t, op, type, pos, after, none⟩ :: rest)) (σ, mkT y) K) (D → Prop) (fun K' => ∀ d, gOps (machX P n M ops) (List.take c rest) (upd σ t d, mkT y) K → K' d) (fun K' => hv P M (ev σ) K' op) (t < n ∧ mkT y t = none) := ⟨fun s h => xt_plain s.1 s.2 h⟩
instance {B A : List Nat} {y : List (Nat × Ent)} {K : SG → Prop} : Gp (kOps (machG P n ops B A) (⟨some t, op, type, pos, after, none⟩ :: rest) (σ, M, mkT y) K) (D → Prop) (fun K' => ∀ d, kOps (machG P n ops B A) rest (upd σ t d, M, mkT y) K → K' d) (fun K' => hv P M (ev σ) K' op)
    ((cls B ⟨some t, op, type, pos, after, none⟩ = 3 ∨ (cls B ⟨some t, op, type, pos, after, none⟩ = 0 ∧ isFree op = true)) ∧ t < n ∧ mkT y t = none) := ⟨fun s h => g_val s.1 s.2.1 s.2.2 h⟩
variable {j : Nat} {want : Bool}
instance {K : Slots → Tab → Prop} : Gd (aOps P n ops (⟨dst, op, type, pos, after, some (j, want)⟩ :: rest) σ M K) ops σ j want (aOps P n ops (⟨dst, op, type, pos, after, none⟩ :: rest) σ M K) (skipQ n dst σ (fun σ' => aOps P n ops rest σ' M K)) := ⟨fun d hd h => o_guard d hd h⟩
instance : Gd (hOps P n M ops (⟨dst, op, type, pos, after, some (j, want)⟩ :: rest) σ KS) ops σ j want (hOps P n M ops (⟨dst, op, type, pos, after, none⟩ :: rest) σ KS) (skipQ n dst σ (fun σ' => hOps P n M ops rest σ' KS)) := ⟨fun d hd h => h_guard d hd h⟩
instance {m : Nat} : Gd (hOps P n M ops (List.take (m + 1) (⟨dst, op, type, pos, after, some (j, want)⟩ :: rest)) σ KS) ops σ j want (hOps P n M ops (List.take (m + 1) (⟨dst, op, type, pos, after, none⟩ :: rest)) σ KS) (skipQ n dst σ (fun σ' => hOps P n M ops (List.take m rest) σ' KS)) := ⟨fun d hd h => ht_guard d hd h⟩
instance {c : Operand} {x y : Code} : Gc (Tr P n (.cond c x y) Q σ M) σ c (Tr P n x Q σ M) (Tr P n y Q σ M) := ⟨fun h => t_cond h⟩
end
/-- what kind of step -/
class OpK (A : Prop) (k : outParam Nat) : Prop where
  h : True
theorem kd {A : Prop} (k : Nat) [OpK A k] (a : A) : A := a
section
variable {ops : Array Oper} {dst : Option Tmp} {d t : Nat} {type : TypeId} {pos : String} {after : Array Edge} {g : Option (Nat × Bool)} {rest : List Oper}
section
variable {B A : List Nat} {s : SG} {K : SG → Prop}
instance : OpK (kOps (machG P n ops B A) [] s K) 0 := ⟨trivial⟩
instance : OpK (kOps (machG P n ops B A) (⟨some d, .alloc t, type, pos, after, none⟩ :: rest) s K) 1 := ⟨trivial⟩
instance {x y : Operand} : OpK (kOps (machG P n ops B A) (⟨none, .store t x y, type, pos, after, none⟩ :: rest) s K) 2 := ⟨trivial⟩
instance {f : FuncId} {args : Array Operand} {ts : Array TypeId} : OpK (kOps (machG P n ops B A) (⟨some d, .call ⟨.value (.func f), args, ts⟩, type, pos, after, none⟩ :: rest) s K) 3 := ⟨trivial⟩
end
section
variable {s : Slots × Prv} {K : Slots × Prv → Prop} {c : Nat} {o : Oper}
instance : OpK (gOps (machX P n M ops) [] s K) 10 := ⟨trivial⟩
instance {l : List Oper} : OpK (gOps (machX P n M ops) (List.take 0 l) s K) 10 := ⟨trivial⟩
instance : OpK (gOps (machX P n M ops) (⟨some d, .alloc t, type, pos, after, none⟩ :: rest) s K) 11 := ⟨trivial⟩
instance : OpK (gOps (machX P n M ops) (⟨some d, .buildSlice t 0 #[], type, pos, after, none⟩ :: rest) s K) 12 := ⟨trivial⟩
instance {args : Array Operand} {ts : Array TypeId} : OpK (gOps (machX P n M ops) (⟨some d, .call ⟨.builtin .append, args, ts⟩, type, pos, after, none⟩ :: rest) s K) 13 := ⟨trivial⟩
instance {f : FuncId} {args : Array Operand} {ts : Array TypeId} : OpK (gOps (machX P n M ops) (⟨some d, .call ⟨.value (.func f), args, ts⟩, type, pos, after, none⟩ :: rest) s K) 14 := ⟨trivial⟩
end
end
/-! calls -/
theorem nz {A B : Prop} (b : B) (e : B → A := by intro b; simp only [addS, addM, ren, renL, rid, scr, scrL, Ent.scr, Nat.reduceMul, Nat.reduceAdd, Nat.reduceEqDiff, reduceIte, bA]; exact b) : A := e b
theorem csq {p : Prop} (h : p := by first | exact .inl rfl | exact .inl trivial | exact .inr ⟨rfl, fun r hr => by rw [List.mem_singleton.1 hr]; exact flat_map (fun _ => rfl) _⟩ | (simp [FlatRows, noSl, noSlL]; done)) : p := h
/-! the end -/
theorem fe {rl : List ResultVar} {r : D} {R : Prop} (h : R) (e : (resQ P σ M rl fun ds => r = view M (packD ds)) = R := by simp only [resQ, packD, callQ, viewL, view, noFsL, noFs, intsOf, Option.map_some, stp, hv, qv, ev, cD, scr, scrL, Ent.scr, flat, one, binQ, ldQ, storeQ, lay, Nat.reduceLT, Nat.reduceLeDiff, Nat.reduceAdd, Nat.reduceEqDiff, Nat.reduceMul, Nat.reduceSub, reduceIte, reduceCtorEq, fillQ, bne_iff_ne, Nat.reduceBNe, Nat.reduceBEq, rowsOf, cloL, clo, exists_eq_left', exists_and_left, appendQ, partsQ, Int.cast_ofNat_Int, Int.reduceBEq, Int.reduceBNe, Int.reduceLT, Int.reduceLE, Int.reduceEq, Int.reduceNe, Int.reduceAdd, Int.reduceSub, Int.reduceNeg, Int.reduceToNat, decide_true, decide_false, ne_eq, not_false_eq_true, true_and, and_true, Nat.add_zero, Nat.zero_add, Nat.not_lt_zero, Bool.not_true, Bool.not_false, Int.le_refl, bA, bB, bT, gx]; rfl) : Fin P rl r [] .ret σ M := (fin_closed (e.symm ▸ h)).1
theorem fo {rl : List ResultVar} {r : D} {rs : List (List (List D))} {R : Prop} (ids : List Nat) (h : R) (e : (resQ P σ M rl fun ds => OwnRes M ids (packD ds) r rs) = R := by simp only [resQ, packD, OwnRes, callQ, viewL, view, noFsL, noFs, intsOf, Option.map_some, stp, hv, qv, ev, cD, scr, scrL, Ent.scr, flat, one, binQ, ldQ, storeQ, lay, Nat.reduceLT, Nat.reduceLeDiff, Nat.reduceAdd, Nat.reduceEqDiff, Nat.reduceMul, Nat.reduceSub, reduceIte, reduceCtorEq, fillQ, bne_iff_ne, Nat.reduceBNe, Nat.reduceBEq, rowsOf, cloL, clo, exists_eq_left', exists_and_left, appendQ, partsQ, Int.cast_ofNat_Int, Int.reduceBEq, Int.reduceBNe, Int.reduceLT, Int.reduceLE, Int.reduceEq, Int.reduceNe, Int.reduceAdd, Int.reduceSub, Int.reduceNeg, Int.reduceToNat, decide_true, decide_false, ne_eq, not_false_eq_true, true_and, and_true, Nat.add_zero, Nat.zero_add, Nat.not_lt_zero, Bool.not_true, Bool.not_false, Int.le_refl, bA, bB, bT, gx]; rfl) : Fin P rl r rs .ret σ M := (fin_own ids (e.symm ▸ h)).1
end
end Go.Proofs.Ytgdldeggoflabaa

/- From the body to the contract, where entries are handed over; such calls in a walk. -/
namespace Go.Proofs.Ytgdldeggoflabaa
open Go.RowKit
set_option linter.unusedVariables false
/-- the names of what is handed in -/
def pinE : Nat → List Ent → List Nat
  | _, [] => []
  | k, .box _ :: r => (900 + k) :: pinE (k + 1) r
  | k, .row _ :: r => (1900 + k) :: pinE (k + 1) r
/-- the variables handed in are where they were, at the end -/
def boxesOk : Nat → List Ent → List Nat → List Ent → Bool
  | _, [], _, _ => true
  | k, .box _ :: r, id :: ids, .box _ :: es => id == 900 + k && boxesOk (k + 1) r ids es
  | k, .row _ :: r, _ :: ids, _ :: es => boxesOk (k + 1) r ids es
  | _, _, _, _ => false
def idLtEs (n : Nat) : List Ent → Bool
  | [] => true
  | e :: es => idLtE n e && idLtEs n es
def FinE {α : Type} (P : Program) (n : Nat) (rl : List ResultVar) (ms : List Ent) (m' : Nat) (I : α → Prop) (r : α → D) (ms' : α → List Ent) : Ex → Slots → Tab → Prop
  | .exit _, _, _ => False
  | _, σ, M => ∃ σ1 M1, Imp n σ M σ1 M1 ∧ resQ P σ1 M1 rl fun ds => ∃ (x : α) (ids : List Nat), I x ∧ packD ds = bk ids (r x) ∧ (ms' x).length = m' ∧ ids.length = m' ∧ idLt m' (r x) = true ∧ idLtEs m' (ms' x) = true ∧ ids.Nodup ∧ ids.map M1 = (bkEs ids (ms' x)).map some ∧ boxesOk 0 ms ids (ms' x) = true
section
variable {P : Program} {n : Nat}
variable {σ : Slots} {M : Tab}
end
def scrsP (l : List Nat) : List (Nat × D) → List (Nat × D)
  | [] => []
  | (i, d) :: s => (i, scrs l d) :: scrsP l s
def scrsT (l : List Nat) : List (Nat × Ent) → List (Nat × Ent)
  | [] => []
  | (i, e) :: s => (i, e.scrs l) :: scrsT l s
end Go.Proofs.Ytgdldeggoflabaa

/- Drawn regions with calls that hand a variable over: an order of one's own serves every order. -/
namespace Go.Proofs.Ytgdldeggoflabaa
open Go.RowKit
set_option linter.unusedVariables false
/-- what an operation reads is none of these -/
def opOk (Z : List Nat) (ρ : Operand → D) (op : Op) : Bool :=
  match op with
  | .load _ x => match ρ x with | .ptr j _ _ => !memN Z j | _ => true
  | _ => true
inductive Dr where
  | d (δ : Dg)
  | ec (z : Nat) (fam : D → Ent → Prop)
  | ws (z : Nat) (e' : Ent)
  | g (fam : Slots → Tab → Prop)
inductive Cr where
  | u
  | v (d : D) (e : Ent)
  | s (σ : Slots) (M : Tab)
def chR : Dr → Cr → Prop
  | .d _, c => c = .u
  | .ec _ fam, c => ∃ v e, c = .v v e ∧ fam v e
  | .ws _ _, c => c = .u
  | .g fam, c => ∃ σ M, c = .s σ M ∧ fam σ M
def putR (s : SG) (o : Oper) : Dr → Cr → SG
  | .d δ, _ => putG s o δ
  | .ec z _, .v v e => (putA s.1 o.dst v, upd s.2.1 z (some e), s.2.2)
  | .ws z e', _ => (s.1, upd s.2.1 z (some e'), s.2.2)
  | .g _, .s σ M => (σ, M, s.2.2)
  | _, _ => s
/-- E: slots of calls that hand the variable over; W: address slots of stores beside loads; G: slots of what comes in its order alone; A: new variables -/
def clsR (E W G A : List Nat) (o : Oper) : Nat :=
  match o.dst with
  | some d => if memN E d then 5 else if memN G d then 6 else cls [] o
  | none => match o.op with
    | .store _ (.tmp p) _ => if memN A p then 2 else if memN W p then 7 else 6
    | _ => 8
def okR (E W G A : List Nat) (ops : Array Oper) (oi oj : Oper) : Bool :=
  match clsR E W G A oi, clsR E W G A oj with
  | 0, 5 | 1, 5 | 3, 5 | 0, 7 | 1, 7 | 3, 7 => true
  | 0, 0 | 0, 1 | 1, 0 | 1, 1 | 0, 3 | 3, 0 | 1, 3 | 3, 1 | 3, 3 | 0, 2 | 2, 0 | 1, 2 | 2, 1 | 2, 2 => okG [] ops oi oj
  | _, _ => false

section
variable {P : Program} {n : Nat} {ops : Array Oper} {E W G A Z : List Nat}
/-- a call that hands the variable z over -/
def ECz (P : Program) (n : Nat) (σ : Slots) (M : Tab) (f : FuncId) (args : List Operand) (z : Nat) (fam : D → Ent → Prop) : Prop :=
  ∃ (α : Type) (cs : List D) (ys : List D) (I : α → Prop) (r : α → D) (c' : α → List D),
    args.map (ev σ) = bkL [z] ys ∧ idLtL 1 ys = true ∧ idLtL 1 cs = true ∧ M z = some (.box (bkL [z] cs)) ∧ ECall P f ys [.box cs] 1 I r (fun x => [.box (c' x)]) ∧ (∀ x, I x → fam (bk [z] (r x)) (.box (bkL [z] (c' x)))) ∧ ∀ v e, fam v e → ∃ cs', e = .box cs'
def YR (P : Program) (n : Nat) (ops : Array Oper) (E W G A Z : List Nat) (o : Oper) (δ : Dr) (s : SG) : Prop :=
  match δ with
  | .d δ => YG P n ops [] A o δ s ∧ clsR E W G A o = clsD δ ∧ (match δ with | .q _ => opOk Z (ev s.1) o.op = true | .e _ _ => False | .b _ _ => False | _ => True)
  | .ec z fam => clsR E W G A o = 5 ∧ z ∈ Z ∧ o.guard = none ∧ ∃ d f args ts, o.dst = some d ∧ d < n ∧ s.2.2 d = none ∧ o.op = .call ⟨.value (.func f), args, ts⟩ ∧ ECz P n s.1 s.2.1 f args.toList z fam
  | .ws z e' => clsR E W G A o = 7 ∧ z ∈ Z ∧ o.guard = none ∧ o.dst = none ∧ ∃ t x y cs cs', o.op = .store t x y ∧ s.2.1 z = some (.box cs) ∧ e' = .box cs' ∧ storeQ P s.2.1 t (ev s.1 x) (ev s.1 y) fun m => m = upd s.2.1 z (some e')
  | .g fam => clsR E W G A o = 6 ∧ o.guard = none ∧ (∀ i, s.2.2 i = none) ∧ stp P n o.dst o.op s.1 s.2.1 fam
def rOp (P : Program) (n : Nat) (ops : Array Oper) (E W G A Z : List Nat) (i : Nat) (K : SG → Prop) (s : SG) : Prop :=
  match ops[i]? with
  | none => K s
  | some o => ∃ δ, YR P n ops E W G A Z o δ s ∧ ∀ c, chR δ c → K (putR s o δ c)
def rAny (P : Program) (n : Nat) (ops : Array Oper) (E W G A Z : List Nat) (md : Region.Mode) (Q : SG → Prop) : Nat → Array Bool → SG → Prop
  | 0, listed, s => Region.ready md ops listed = [] ∧ Q s
  | fuel + 1, listed, s => (Region.ready md ops listed = [] → Q s) ∧ ∀ i ∈ Region.ready md ops listed, rOp P n ops E W G A Z i (rAny P n ops E W G A Z md Q fuel (listed.setIfInBounds i true)) s
def rOps (P : Program) (n : Nat) (ops : Array Oper) (E W G A Z : List Nat) : List Oper → SG → (SG → Prop) → Prop
  | [], s, K => K s
  | o :: rest, s, K => ∃ δ, YR P n ops E W G A Z o δ s ∧ ∀ c, chR δ c → rOps P n ops E W G A Z rest (putR s o δ c) K

def lexR (md : Region.Mode) (ops : Array Oper) (ok : Oper → Oper → Bool) : List Nat → Array Bool → Bool
  | [], listed => (Region.ready md ops listed).isEmpty
  | k :: r, listed => (Region.ready md ops listed).contains k && freeK md ops ok listed k && lexR md ops ok r (listed.setIfInBounds k true)
def pickL {α : Type} : List α → Nat → List α
  | [], _ => []
  | a :: _, 0 => [a]
  | _ :: l, k + 1 => pickL l k
def permL {α : Type} (l : List α) : List Nat → List α
  | [] => []
  | k :: js => pickL l k ++ permL l js
end

section
variable {P : Program} {n : Nat} {ops : Array Oper} {E W G A Z : List Nat} {B0 : Nat} {X : Xs} {I0 : Nat → Prop} {w0 : World} {md : Region.Mode}
end
/-! ### the steps -/
section
variable {P : Program} {n : Nat} {ops : Array Oper} {E W G A Z : List Nat} {σ : Slots} {M : Tab} {K : SG → Prop} {y : List (Nat × Ent)} {rest : List Oper} {type : TypeId} {pos : String} {after : Array Edge} {d t : Nat} {op : Op} {g : Option (Nat × Bool)}
instance {dst : Option Tmp} : OpK (rOps P n ops E W G A Z (⟨dst, op, type, pos, after, g⟩ :: rest) (σ, M, mkT y) K) 21 := ⟨trivial⟩
instance {s : SG} : OpK (rOps P n ops E W G A Z [] s K) 20 := ⟨trivial⟩
instance : OpK (rOps P n ops E W G A Z (⟨some d, .alloc t, type, pos, after, none⟩ :: rest) (σ, M, mkT y) K) 22 := ⟨trivial⟩
instance {x v : Operand} : OpK (rOps P n ops E W G A Z (⟨none, .store t x v, type, pos, after, none⟩ :: rest) (σ, M, mkT y) K) 23 := ⟨trivial⟩
instance {f : FuncId} {args : Array Operand} {ts : Array TypeId} : OpK (rOps P n ops E W G A Z (⟨some d, .call ⟨.value (.func f), args, ts⟩, type, pos, after, none⟩ :: rest) (σ, M, mkT y) K) 24 := ⟨trivial⟩
end
end Go.Proofs.Ytgdldeggoflabaa

/- A nil slice in a variable, from now on an own row without cells. -/
namespace Go.Proofs.Ytgdldeggoflabaa
open Go.RowKit
set_option linter.unusedVariables false
end Go.Proofs.Ytgdldeggoflabaa
