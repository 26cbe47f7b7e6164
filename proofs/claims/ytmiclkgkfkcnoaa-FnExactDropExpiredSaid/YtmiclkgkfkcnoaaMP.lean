/- The evaluator: short words for its steps, calls that hand variables over. -/
import Derived.Test.YtmiclkgkfkcnoaaMN
/- Short words for the steps of the proofs: what a step asks is proved by itself. -/
namespace Go.Proofs.Ytmiclkgkfkcnoaa
open Go.RowKit
set_option linter.unusedVariables false
class Go1 (A : Prop) (B : outParam Prop) : Prop where
  h : B → A
class Go2 (A : Prop) (B C : outParam Prop) : Prop where
  h : B → C → A
theorem go {A B : Prop} [i : Go1 A B] (b : B) : A := i.h b
theorem go2 {A B C : Prop} [i : Go2 A B C] (b : B) (c : C) : A := i.h b c
theorem setL_set : ∀ {α : Type} (l : List α) (n : Nat) (a b : α), (l.set n a).set n b = l.set n b := fun l n a b => List.set_set ..
theorem lenL_set : ∀ {α : Type} (l : List α) (n : Nat) (a : α), (l.set n a).length = l.length := fun l n a => List.length_set
theorem beqI_self : ∀ (a : Int), (a == a) = true := fun a => beq_self_eq_true a
theorem bneI_self : ∀ (a : Int), (a != a) = false := fun a => bne_self_eq_false a
theorem lenL_app : ∀ {α : Type} (l m : List α), (l ++ m).length = l.length + m.length := fun l m => List.length_append
theorem fx (b : Bool) : (true && b) = b := Bool.true_and b
section
variable {P : Program} {n : Nat} {σ : Slots} {M : Tab} {Q : Ex → Slots → Tab → Prop}
instance {c d : Code} : Go1 (Tr P n (.seq c d) Q σ M) (Tr P n c (Then P n d Q) σ M) := ⟨t_seq⟩
instance {id : Nat} {c : Code} : Go1 (Tr P n (.block id c) Q σ M) (Tr P n c (InBlk id Q) σ M) := ⟨t_block⟩
instance : Go1 (Tr P n .skip Q σ M) (Q .normal σ M) := ⟨Tr.skip⟩
instance : Go1 (Tr P n .ret Q σ M) (Q .ret σ M) := ⟨Tr.ret⟩
instance {id : Nat} : Go1 (Tr P n (.exit id) Q σ M) (Q (.exit id) σ M) := ⟨Tr.exit⟩
instance {d : Code} : Go1 (Then P n d Q .normal σ M) (Tr P n d Q σ M) := ⟨k_seq⟩
instance {d : Code} : Go1 (Then P n d Q .ret σ M) (Q .ret σ M) := ⟨k_seqR⟩
instance {d : Code} {i : Nat} : Go1 (Then P n d Q (.exit i) σ M) (Q (.exit i) σ M) := ⟨k_seqX⟩
instance {id : Nat} : Go1 (InBlk id Q .normal σ M) (Q .normal σ M) := ⟨k_blk⟩
instance {id : Nat} : Go1 (InBlk id Q .ret σ M) (Q .ret σ M) := ⟨k_blkR⟩
instance {id : Nat} : Go1 (InBlk id Q (.exit id) σ M) (Q .normal σ M) := ⟨k_blkX⟩
section
variable {α : Type} {S : α → List (Nat × D)} {T : α → List (Nat × Ent)} {I : α → Prop} {μ : α → Nat} {k : Nat}
instance {i : Nat} : Go1 (Rnd n Q S T I μ k (.exit i) σ M) (Q (.exit i) σ M) := ⟨k_rndX⟩
instance : Go1 (Rnd n Q S T I μ k .ret σ M) (Q .ret σ M) := ⟨k_rndR⟩
end
instance {A B : Prop} : Go1 (grdQ (.bool true) true A B) A := ⟨g_yT⟩
instance {A B : Prop} : Go1 (grdQ (.bool false) true A B) B := ⟨g_nF⟩
instance {A B : Prop} : Go1 (grdQ (.bool false) false A B) A := ⟨g_yF⟩
instance {A B : Prop} : Go1 (grdQ (.bool true) false A B) B := ⟨g_nT⟩
instance {A B : Prop} {b : Bool} : Go1 (grdQ .nov b A B) B := ⟨g_nov⟩
instance {A B : Prop} : Go1 (condQ (.bool true) A B) A := ⟨c_T⟩
instance {A B : Prop} : Go1 (condQ (.bool false) A B) B := ⟨c_F⟩
instance {A B : Prop} {b : Bool} : Go2 (grdQ (.bool b) true A B) (b = true → A) (b = false → B) := ⟨g_sT⟩
instance {A B : Prop} {b : Bool} : Go2 (grdQ (.bool b) false A B) (b = false → A) (b = true → B) := ⟨g_sF⟩
instance {A B : Prop} {b : Bool} : Go2 (condQ (.bool b) A B) (b = true → A) (b = false → B) := ⟨c_s⟩
theorem bY {id i : Nat} (h : Q (.exit i) σ M) (hi : (i == id) = false := by decide) : InBlk id Q (.exit i) σ M := k_blkY hi h
theorem skS {d : Nat} {K : Slots → Prop} (hk : K (upd σ d .nov)) (h : d < n := by decide) : skipQ n (some d) σ K := skip_some h hk
theorem tdr {id : Nat} {l : List Oper} (h : ∀ K : Slots → Prop, (∀ σ, Q .normal σ M → K σ) → hOps P n M l.toArray l σ K) (hm : P.follows .mixedOrders = true := by kernel_rfl) (hB : Region.lexB .any l.toArray = true := by kernel_rfl) : Tr P n (.region id l.toArray true) Q σ M := t_draw hm hB h
theorem tdT {l : List Oper} (id m : Nat) (h : ∀ K : Slots → Tab → Prop, (∀ σ M, Q .normal σ M → K σ M) → hOps P n M l.toArray (l.take m) σ fun σ' => aOps P n l.toArray (dropQ false m l) σ' M K)
    (hm : P.follows .mixedOrders = true := by kernel_rfl) (hB : tailB l.toArray m = true := by kernel_rfl) : Tr P n (.region id l.toArray true) Q σ M := t_drawTail m hm hB h
/-! operations -/
class Gp (A : Prop) (κ : outParam Type) (H B : outParam (κ → Prop)) (S : outParam Prop) : Prop where
  h : S → (∀ K, H K → B K) → A
theorem gp {A : Prop} {κ : Type} {H B R : κ → Prop} {S : Prop} [i : Gp A κ H B S] (h : ∀ K, H K → R K) (e : ∀ K, R K → B K := by intro KK r; simp only [stp, hv, qv, ev, cD, scr, scrL, Ent.scr, flat, one, binQ, ldQ, storeQ, lay, Nat.reduceLT, Nat.reduceLeDiff, Nat.reduceAdd, Nat.reduceEqDiff, Nat.reduceMul, Nat.reduceSub, reduceIte, reduceCtorEq, fillQ, bne_iff_ne, Nat.reduceBNe, Nat.reduceBEq, rowsOf, cloL, clo, exists_eq_left', exists_and_left, appendQ, partsQ, Int.cast_ofNat_Int, Int.reduceBEq, Int.reduceBNe, Int.reduceLT, Int.reduceLE, Int.reduceEq, Int.reduceNe, Int.reduceAdd, Int.reduceSub, Int.reduceNeg, Int.reduceToNat, decide_true, decide_false, ne_eq, not_false_eq_true, true_and, and_true, Nat.add_zero, Nat.zero_add, Nat.not_lt_zero, Bool.not_true, Bool.not_false, Int.le_refl, bA, bB, callQ, viewL, view, noFsL, noFs, intsOf, Option.map_some, bT, gx, fx]; exact r)
    (s : S := by first | trivial | decide | exact ⟨by decide, rfl⟩ | exact ⟨.inl rfl, by decide, rfl⟩ | exact ⟨.inr ⟨rfl, rfl⟩, by decide, rfl⟩) : A := i.h s fun K hk => e K (h K hk)
class Gd (A : Prop) (ops : outParam (Array Oper)) (σ : outParam Slots) (j : outParam Nat) (w : outParam Bool) (X Y : outParam Prop) : Prop where
  h : ∀ d, (ops[j]?).bind (·.dst) = some d → (∀ A B : Prop, (X → A) → (Y → B) → grdQ (σ d) w A B) → A
theorem gd {A : Prop} {ops : Array Oper} {σ : Slots} {j : Nat} {w : Bool} {X Y : Prop} {R : Prop → Prop → Prop} {d : Nat} [i : Gd A ops σ j w X Y] (h : ∀ A B : Prop, (X → A) → (Y → B) → R A B) (hd : (ops[j]?).bind (·.dst) = some d := by rfl)
    (e : ∀ A B, R A B → grdQ (σ d) w A B := by intro A B r; simp only [bA, ev, cD, Nat.reduceEqDiff, reduceIte, fx]; exact r) : A := i.h d hd fun A B hA hB => e A B (h A B hA hB)
class Gc (A : Prop) (σ : outParam Slots) (c : outParam Operand) (X Y : outParam Prop) : Prop where
  h : (∀ A B : Prop, (X → A) → (Y → B) → condQ (ev σ c) A B) → A
theorem tc {A : Prop} {σ : Slots} {c : Operand} {X Y : Prop} {R : Prop → Prop → Prop} [i : Gc A σ c X Y] (h : ∀ A B : Prop, (X → A) → (Y → B) → R A B)
    (e : ∀ A B, R A B → condQ (ev σ c) A B := by intro A B r; simp only [bA, ev, cD, Nat.reduceEqDiff, reduceIte, fx]; exact r) : A := i.h fun A B hA hB => e A B (h A B hA hB)
section
variable {ops : Array Oper} {dst : Option Tmp} {t : Nat} {op : Op} {type : TypeId} {pos : String} {after : Array Edge} {rest : List Oper} {KS : Slots → Prop}
instance {K : Slots → Tab → Prop} : Gp (aOps P n ops (⟨dst, op, type, pos, after, none⟩ :: rest) σ M K) (Slots → Tab → Prop) (fun K' => ∀ σ M, aOps P n ops rest σ M K → K' σ M) (fun K' => stp P n dst op σ M K') True := ⟨fun _ h => o_plain h⟩
instance : Gp (hOps P n M ops (⟨some t, op, type, pos, after, none⟩ :: rest) σ KS) (D → Prop) (fun K' => ∀ d, hOps P n M ops rest (upd σ t d) KS → K' d) (fun K' => hv P M (ev σ) K' op) (t < n) := ⟨fun hd h => h_plain hd h⟩
instance : Gp (hOps P n M ops (⟨none, op, type, pos, after, none⟩ :: rest) σ KS) (D → Prop) (fun K' => ∀ d, hOps P n M ops rest σ KS → K' d) (fun K' => hv P M (ev σ) K' op) True := ⟨fun _ h => h_none h⟩
instance {m : Nat} : Gp (hOps P n M ops (List.take (m + 1) (⟨some t, op, type, pos, after, none⟩ :: rest)) σ KS) (D → Prop) (fun K' => ∀ d, hOps P n M ops (List.take m rest) (upd σ t d) KS → K' d) (fun K' => hv P M (ev σ) K' op) (t < n) := ⟨fun hd h => ht_plain hd h⟩
instance {y : List (Nat × Ent)} {K : Slots × Prv → Prop} : Gp (gOps (machX P n M ops) (⟨some t, op, type, pos, after, none⟩ :: rest) (σ, mkT y) K) (D → Prop) (fun K' => ∀ d, gOps (machX P n M ops) rest (upd σ t d, mkT y) K → K' d) (fun K' => hv P M (ev σ) K' op) (t < n ∧ mkT y t = none) := ⟨fun s h => x_plain s.1 s.2 h⟩
instance {c : Nat} {y : List (Nat × Ent)} {K : Slots × Prv → Prop} : Gp (gOps (machX P n M ops) (List.take (c + 1) (⟨some t, op, type, pos, after, none⟩ :: rest)) (σ, mkT y) K) (D → Prop) (fun K' => ∀ d, gOps (machX P n M ops) (List.take c rest) (upd σ t d, mkT y) K → K' d) (fun K' => hv P M (ev σ) K' op) (t < n ∧ mkT y t = none) := ⟨fun s h => xt_plain s.1 s.2 h⟩
instance {B A : List Nat} {y : List (Nat × Ent)} {K : SG → Prop} : Gp (kOps (machG P n ops B A) (⟨some t, op, type, pos, after, none⟩ :: rest) (σ, M, mkT y) K) (D → Prop) (fun K' => ∀ d, kOps (machG P n ops B A) rest (upd σ t d, M, mkT y) K → K' d) (fun K' => hv P M (ev σ) K' op)
    ((cls B ⟨some t, op, type, pos, after, none⟩ = 3 ∨ (cls B ⟨some t, op, type, pos, after, none⟩ = 0 ∧ isFree op = true)) ∧ t < n ∧ mkT y t = none) := ⟨fun s h => g_val s.1 s.2.1 s.2.2 h⟩
variable {j : Nat} {want : Bool}
instance {K : Slots → Tab → Prop} : Gd (aOps P n ops (⟨dst, op, type, pos, after, some (j, want)⟩ :: rest) σ M K) ops σ j want (aOps P n ops (⟨dst, op, type, pos, after, none⟩ :: rest) σ M K) (skipQ n dst σ (fun σ' => aOps P n ops rest σ' M K)) := ⟨fun d hd h => o_guard d hd h⟩
instance : Gd (hOps P n M ops (⟨dst, op, type, pos, after, some (j, want)⟩ :: rest) σ KS) ops σ j want (hOps P n M ops (⟨dst, op, type, pos, after, none⟩ :: rest) σ KS) (skipQ n dst σ (fun σ' => hOps P n M ops rest σ' KS)) := ⟨fun d hd h => h_guard d hd h⟩
instance {m : Nat} : Gd (hOps P n M ops (List.take (m + 1) (⟨dst, op, type, pos, after, some (j, want)⟩ :: rest)) σ KS) ops σ j want (hOps P n M ops (List.take (m + 1) (⟨dst, op, type, pos, after, none⟩ :: rest)) σ KS) (skipQ n dst σ (fun σ' => hOps P n M ops (List.take m rest) σ' KS)) := ⟨fun d hd h => ht_guard d hd h⟩
instance {c : Operand} {x y : Code} : Gc (Tr P n (.cond c x y) Q σ M) σ c (Tr P n x Q σ M) (Tr P n y Q σ M) := ⟨fun h => t_cond h⟩
end
class OpK (A : Prop) (k : outParam Nat) : Prop where
  h : True
theorem kd {A : Prop} (k : Nat) [OpK A k] (a : A) : A := a
section
variable {ops : Array Oper} {dst : Option Tmp} {d t : Nat} {type : TypeId} {pos : String} {after : Array Edge} {g : Option (Nat × Bool)} {rest : List Oper}
section
variable {B A : List Nat} {s : SG} {K : SG → Prop}
instance : OpK (kOps (machG P n ops B A) [] s K) 0 := ⟨trivial⟩
instance : OpK (kOps (machG P n ops B A) (⟨some d, .alloc t, type, pos, after, none⟩ :: rest) s K) 1 := ⟨trivial⟩
instance {x y : Operand} : OpK (kOps (machG P n ops B A) (⟨none, .store t x y, type, pos, after, none⟩ :: rest) s K) 2 := ⟨trivial⟩
instance {f : FuncId} {args : Array Operand} {ts : Array TypeId} : OpK (kOps (machG P n ops B A) (⟨some d, .call ⟨.value (.func f), args, ts⟩, type, pos, after, none⟩ :: rest) s K) 3 := ⟨trivial⟩
end
section
variable {s : Slots × Prv} {K : Slots × Prv → Prop} {c : Nat} {o : Oper}
instance : OpK (gOps (machX P n M ops) [] s K) 10 := ⟨trivial⟩
instance {l : List Oper} : OpK (gOps (machX P n M ops) (List.take 0 l) s K) 10 := ⟨trivial⟩
instance : OpK (gOps (machX P n M ops) (⟨some d, .alloc t, type, pos, after, none⟩ :: rest) s K) 11 := ⟨trivial⟩
instance : OpK (gOps (machX P n M ops) (⟨some d, .buildSlice t 0 #[], type, pos, after, none⟩ :: rest) s K) 12 := ⟨trivial⟩
instance {args : Array Operand} {ts : Array TypeId} : OpK (gOps (machX P n M ops) (⟨some d, .call ⟨.builtin .append, args, ts⟩, type, pos, after, none⟩ :: rest) s K) 13 := ⟨trivial⟩
instance {f : FuncId} {args : Array Operand} {ts : Array TypeId} : OpK (gOps (machX P n M ops) (⟨some d, .call ⟨.value (.func f), args, ts⟩, type, pos, after, none⟩ :: rest) s K) 14 := ⟨trivial⟩
end
end
/-! calls -/
theorem nz {A B : Prop} (b : B) (e : B → A := by intro b; simp only [addS, addM, ren, renL, rid, scr, scrL, Ent.scr, Nat.reduceMul, Nat.reduceAdd, Nat.reduceEqDiff, reduceIte, bA]; exact b) : A := e b
theorem csq {p : Prop} (h : p := by first | exact .inl rfl | exact .inl trivial | exact .inr ⟨rfl, fun r hr => by rw [List.mem_singleton.1 hr]; exact flat_map (fun _ => rfl) _⟩ | (simp [FlatRows, noSl, noSlL]; done)) : p := h
/-! the end -/
theorem fe {rl : List ResultVar} {r : D} {R : Prop} (h : R) (e : (resQ P σ M rl fun ds => r = view M (packD ds)) = R := by simp only [resQ, packD, callQ, viewL, view, noFsL, noFs, intsOf, Option.map_some, stp, hv, qv, ev, cD, scr, scrL, Ent.scr, flat, one, binQ, ldQ, storeQ, lay, Nat.reduceLT, Nat.reduceLeDiff, Nat.reduceAdd, Nat.reduceEqDiff, Nat.reduceMul, Nat.reduceSub, reduceIte, reduceCtorEq, fillQ, bne_iff_ne, Nat.reduceBNe, Nat.reduceBEq, rowsOf, cloL, clo, exists_eq_left', exists_and_left, appendQ, partsQ, Int.cast_ofNat_Int, Int.reduceBEq, Int.reduceBNe, Int.reduceLT, Int.reduceLE, Int.reduceEq, Int.reduceNe, Int.reduceAdd, Int.reduceSub, Int.reduceNeg, Int.reduceToNat, decide_true, decide_false, ne_eq, not_false_eq_true, true_and, and_true, Nat.add_zero, Nat.zero_add, Nat.not_lt_zero, Bool.not_true, Bool.not_false, Int.le_refl, bA, bB, bT, gx]; rfl) : Fin P rl r [] .ret σ M := (fin_closed (e.symm ▸ h)).1
theorem fo {rl : List ResultVar} {r : D} {rs : List (List (List D))} {R : Prop} (ids : List Nat) (h : R) (e : (resQ P σ M rl fun ds => OwnRes M ids (packD ds) r rs) = R := by simp only [resQ, packD, OwnRes, callQ, viewL, view, noFsL, noFs, intsOf, Option.map_some, stp, hv, qv, ev, cD, scr, scrL, Ent.scr, flat, one, binQ, ldQ, storeQ, lay, Nat.reduceLT, Nat.reduceLeDiff, Nat.reduceAdd, Nat.reduceEqDiff, Nat.reduceMul, Nat.reduceSub, reduceIte, reduceCtorEq, fillQ, bne_iff_ne, Nat.reduceBNe, Nat.reduceBEq, rowsOf, cloL, clo, exists_eq_left', exists_and_left, appendQ, partsQ, Int.cast_ofNat_Int, Int.reduceBEq, Int.reduceBNe, Int.reduceLT, Int.reduceLE, Int.reduceEq, Int.reduceNe, Int.reduceAdd, Int.reduceSub, Int.reduceNeg, Int.reduceToNat, decide_true, decide_false, ne_eq, not_false_eq_true, true_and, and_true, Nat.add_zero, Nat.zero_add, Nat.not_lt_zero, Bool.not_true, Bool.not_false, Int.le_refl, bA, bB, bT, gx]; rfl) : Fin P rl r rs .ret σ M := (fin_own ids (e.symm ▸ h)).1
end
end Go.Proofs.Ytmiclkgkfkcnoaa

/- From the body to the contract, where entries are handed over; such calls in a walk. -/
namespace Go.Proofs.Ytmiclkgkfkcnoaa
open Go.RowKit
set_option linter.unusedVariables false
section
variable {P : Program} {n : Nat}
variable {σ : Slots} {M : Tab}
end
end Go.Proofs.Ytmiclkgkfkcnoaa

/- Drawn regions with calls that hand a variable over: an order of one's own serves every order. -/
namespace Go.Proofs.Ytmiclkgkfkcnoaa
open Go.RowKit
set_option linter.unusedVariables false
def opOk (Z : List Nat) (ρ : Operand → D) (op : Op) : Bool :=
  match op with
  | .load _ x => match ρ x with | .ptr j _ _ => !memN Z j | _ => true
  | _ => true
inductive Dr where
  | d (δ : Dg)
  | ec (z : Nat) (fam : D → Ent → Prop)
  | ws (z : Nat) (e' : Ent)
  | g (fam : Slots → Tab → Prop)
inductive Cr where
  | u
  | v (d : D) (e : Ent)
  | s (σ : Slots) (M : Tab)
def chR : Dr → Cr → Prop
  | .d _, c => c = .u
  | .ec _ fam, c => ∃ v e, c = .v v e ∧ fam v e
  | .ws _ _, c => c = .u
  | .g fam, c => ∃ σ M, c = .s σ M ∧ fam σ M
def putR (s : SG) (o : Oper) : Dr → Cr → SG
  | .d δ, _ => putG s o δ
  | .ec z _, .v v e => (putA s.1 o.dst v, upd s.2.1 z (some e), s.2.2)
  | .ws z e', _ => (s.1, upd s.2.1 z (some e'), s.2.2)
  | .g _, .s σ M => (σ, M, s.2.2)
  | _, _ => s
def clsR (E W G A : List Nat) (o : Oper) : Nat :=
  match o.dst with
  | some d => if memN E d then 5 else if memN G d then 6 else cls [] o
  | none => match o.op with
    | .store _ (.tmp p) _ => if memN A p then 2 else if memN W p then 7 else 6
    | _ => 8
section
variable {P : Program} {n : Nat} {ops : Array Oper} {E W G A Z : List Nat}
def ECz (P : Program) (n : Nat) (σ : Slots) (M : Tab) (f : FuncId) (args : List Operand) (z : Nat) (fam : D → Ent → Prop) : Prop :=
  ∃ (α : Type) (cs : List D) (ys : List D) (I : α → Prop) (r : α → D) (c' : α → List D),
    args.map (ev σ) = bkL [z] ys ∧ idLtL 1 ys = true ∧ idLtL 1 cs = true ∧ M z = some (.box (bkL [z] cs)) ∧ ECall P f ys [.box cs] 1 I r (fun x => [.box (c' x)]) ∧ (∀ x, I x → fam (bk [z] (r x)) (.box (bkL [z] (c' x)))) ∧ ∀ v e, fam v e → ∃ cs', e = .box cs'
def YR (P : Program) (n : Nat) (ops : Array Oper) (E W G A Z : List Nat) (o : Oper) (δ : Dr) (s : SG) : Prop :=
  match δ with
  | .d δ => YG P n ops [] A o δ s ∧ clsR E W G A o = clsD δ ∧ (match δ with | .q _ => opOk Z (ev s.1) o.op = true | .e _ _ => False | .b _ _ => False | _ => True)
  | .ec z fam => clsR E W G A o = 5 ∧ z ∈ Z ∧ o.guard = none ∧ ∃ d f args ts, o.dst = some d ∧ d < n ∧ s.2.2 d = none ∧ o.op = .call ⟨.value (.func f), args, ts⟩ ∧ ECz P n s.1 s.2.1 f args.toList z fam
  | .ws z e' => clsR E W G A o = 7 ∧ z ∈ Z ∧ o.guard = none ∧ o.dst = none ∧ ∃ t x y cs cs', o.op = .store t x y ∧ s.2.1 z = some (.box cs) ∧ e' = .box cs' ∧ storeQ P s.2.1 t (ev s.1 x) (ev s.1 y) fun m => m = upd s.2.1 z (some e')
  | .g fam => clsR E W G A o = 6 ∧ o.guard = none ∧ (∀ i, s.2.2 i = none) ∧ stp P n o.dst o.op s.1 s.2.1 fam
def rOps (P : Program) (n : Nat) (ops : Array Oper) (E W G A Z : List Nat) : List Oper → SG → (SG → Prop) → Prop
  | [], s, K => K s
  | o :: rest, s, K => ∃ δ, YR P n ops E W G A Z o δ s ∧ ∀ c, chR δ c → rOps P n ops E W G A Z rest (putR s o δ c) K

end

section
variable {P : Program} {n : Nat} {ops : Array Oper} {E W G A Z : List Nat} {B0 : Nat} {X : Xs} {I0 : Nat → Prop} {w0 : World} {md : Region.Mode}
end
/-! ### the steps -/
section
variable {P : Program} {n : Nat} {ops : Array Oper} {E W G A Z : List Nat} {σ : Slots} {M : Tab} {K : SG → Prop} {y : List (Nat × Ent)} {rest : List Oper} {type : TypeId} {pos : String} {after : Array Edge} {d t : Nat} {op : Op} {g : Option (Nat × Bool)}
instance {dst : Option Tmp} : OpK (rOps P n ops E W G A Z (⟨dst, op, type, pos, after, g⟩ :: rest) (σ, M, mkT y) K) 21 := ⟨trivial⟩
instance {s : SG} : OpK (rOps P n ops E W G A Z [] s K) 20 := ⟨trivial⟩
instance : OpK (rOps P n ops E W G A Z (⟨some d, .alloc t, type, pos, after, none⟩ :: rest) (σ, M, mkT y) K) 22 := ⟨trivial⟩
instance {x v : Operand} : OpK (rOps P n ops E W G A Z (⟨none, .store t x v, type, pos, after, none⟩ :: rest) (σ, M, mkT y) K) 23 := ⟨trivial⟩
instance {f : FuncId} {args : Array Operand} {ts : Array TypeId} : OpK (rOps P n ops E W G A Z (⟨some d, .call ⟨.value (.func f), args, ts⟩, type, pos, after, none⟩ :: rest) (σ, M, mkT y) K) 24 := ⟨trivial⟩
end
end Go.Proofs.Ytmiclkgkfkcnoaa

/- A nil slice in a variable, from now on an own row without cells. -/
namespace Go.Proofs.Ytmiclkgkfkcnoaa
open Go.RowKit
set_option linter.unusedVariables false
end Go.Proofs.Ytmiclkgkfkcnoaa

/- Rows that lie beside the state: the state mentions them only by the place where they lie (D.lv). -/
namespace Go.Proofs.Ytmiclkgkfkcnoaa
open Go.RowKit
set_option linter.unusedVariables false

def gNil : RowG := ⟨0, 0, 0, true⟩
def SE (w : World) (g : RowG) (rows : List (List D)) : Prop := EntOk w (fun _ => False) (fun _ => gNil) (fun _ => none) g (.row rows)
abbrev Side := List (RowG × List (List D))
def inS (S : Side) (b : Nat) : Prop := ∃ g ∈ S.map Prod.fst, g.nil = false ∧ b = g.blk

structure SideOk (w : World) (S : Side) : Prop where
  ent : ∀ p ∈ S, SE w p.1 p.2
  fl : ∀ p ∈ S, FlatRows p.2
  dis : (S.map Prod.fst).Pairwise fun g h => g.nil = false → h.nil = false → g.blk ≠ h.blk

structure Apart (B0 : Nat) (X : Xs) (Im : Nat → Prop) (β : Nat → RowG) (M : Nat → Option Ent) (S : Side) : Prop where
  im : ∀ b, inS S b → ¬ Im b
  own : ∀ b, inS S b → B0 ≤ b ∨ X.blk b
  tab : ∀ id e, M id = some e → (β id).nil = false → ¬ inS S (β id).blk

def StF (B0 : Nat) (X : Xs) (I0 : Nat → Prop) (w0 : World) (n : Nat) (σ : Slots) (M : Tab) (S : Side) (a : Act) (w : World) : Prop :=
  ∃ Im β, StG B0 X I0 w0 n Im β σ M a w ∧ SideOk w S ∧ Apart B0 X Im β M S

theorem RcL_scal2 {w w' : World} {Im Im' : Nat → Prop} : ∀ (ds : List D) (vs : List Value), (∀ d ∈ ds, scal d = true) → RcL w Im ds vs → RcL w' Im' ds vs
  | [], _, _, hv => by simpa [RcL] using hv
  | d :: ds, vs, hn, hv => by
    simp only [RcL] at hv ⊢
    obtain ⟨v, r, rfl, h1, h2⟩ := hv
    refine ⟨v, r, rfl, ?_, RcL_scal2 ds r (fun x hx => hn x (by simp [hx])) h2⟩
    have := hn d (by simp)
    cases d <;> simp [scal] at this <;> simpa [Rc] using h1
theorem RcRowsL_scal2 {w w' : World} {Im Im' : Nat → Prop} : ∀ (rs : List (List D)) (s : Nat) (l : List Value), FlatRows rs → RcRowsL w Im rs s l → RcRowsL w' Im' rs s l
  | [], _, _, _, _ => by simp [RcRowsL]
  | r :: rs, s, l, hf, h => by
    simp only [RcRowsL] at h ⊢
    obtain ⟨c, rest, rfl, h1, h2, h3⟩ := h
    exact ⟨c, rest, rfl, h1, RcL_scal2 _ _ (fun d hd => hf r (by simp) d hd) h2, RcRowsL_scal2 rs s rest (fun r' hr => hf r' (by simp [hr])) h3⟩

theorem SE.ent {w : World} {g : RowG} {rows : List (List D)} (h : SE w g rows) (hf : FlatRows rows) {Im : Nat → Prop} {β : Nat → RowG} {M : Nat → Option Ent} (hi : g.nil = false → ¬ Im g.blk) : EntOk w Im β M g (.row rows) := by
  simp only [SE, EntOk] at h ⊢
  refine h.imp id ?_
  rintro ⟨h1, _, h3, h4, cur, e, h5, h6, h7, h8⟩
  exact ⟨h1, hi h1, h3, h4, cur, e, h5, h6, h7, RcRowsL_scal2 _ _ _ hf h8⟩
theorem SE.of {w : World} {g : RowG} {rows : List (List D)} {Im : Nat → Prop} {β : Nat → RowG} {M : Nat → Option Ent} (h : EntOk w Im β M g (.row rows)) (hf : FlatRows rows) : SE w g rows := by
  simp only [SE, EntOk] at h ⊢
  refine h.imp id ?_
  rintro ⟨h1, _, h3, h4, cur, e, h5, h6, h7, h8⟩
  exact ⟨h1, fun h => h, h3, h4, cur, e, h5, h6, h7, RcRowsL_scal2 _ _ _ hf h8⟩
theorem SE.lt {w : World} {g : RowG} {rows : List (List D)} (h : SE w g rows) (hn : g.nil = false) : g.blk < w.heap.size := by
  simp only [SE, EntOk] at h
  rcases h with ⟨h1, _⟩ | ⟨_, _, _, _, cur, e, h5, _⟩
  · rw [hn] at h1; cases h1
  · exact (Array.getElem?_eq_some_iff.1 h5).1
theorem SE.move {w w' : World} {g : RowG} {rows : List (List D)} (h : SE w g rows) (hf : FlatRows rows) (hb : g.nil = false → w'.heap[g.blk]? = w.heap[g.blk]?) : SE w' g rows := by
  simp only [SE, EntOk] at h ⊢
  refine h.imp id ?_
  rintro ⟨h1, h2, h3, h4, cur, e, h5, h6, h7, h8⟩
  exact ⟨h1, h2, h3, h4, cur, e, by rw [hb h1]; exact h5, h6, h7, RcRowsL_scal2 _ _ _ hf h8⟩
theorem inS_of {S : Side} {p : RowG × List (List D)} (hp : p ∈ S) (hn : p.1.nil = false) : inS S p.1.blk := ⟨p.1, List.mem_map.2 ⟨p, hp, rfl⟩, hn, rfl⟩
theorem SideOk.lt {w : World} {S : Side} (h : SideOk w S) {b : Nat} (hb : inS S b) : b < w.heap.size := by
  obtain ⟨g, hg, hn, rfl⟩ := hb
  obtain ⟨p, hp, rfl⟩ := List.mem_map.1 hg
  exact (h.ent p hp).lt hn
theorem SideOk.move {w w' : World} {S : Side} (h : SideOk w S) (hb : ∀ b, inS S b → w'.heap[b]? = w.heap[b]?) : SideOk w' S :=
  ⟨fun p hp => (h.ent p hp).move (h.fl p hp) fun hn => hb _ (inS_of hp hn), h.fl, h.dis⟩
theorem inS_congr {S T : Side} (h : S.map Prod.fst = T.map Prod.fst) (b : Nat) : inS S b ↔ inS T b := by simp only [inS, h]
theorem inS_app {S T : Side} {b : Nat} : inS (S ++ T) b ↔ inS S b ∨ inS T b := by
  simp only [inS, List.map_append, List.mem_append]
  constructor
  · rintro ⟨g, h | h, h2⟩
    · exact .inl ⟨g, h, h2⟩
    · exact .inr ⟨g, h, h2⟩
  · rintro (⟨g, h, h2⟩ | ⟨g, h, h2⟩)
    · exact ⟨g, .inl h, h2⟩
    · exact ⟨g, .inr h, h2⟩

section
variable {B0 : Nat} {X : Xs} {I0 : Nat → Prop} {w0 : World} {n : Nat} {Im : Nat → Prop} {β : Nat → RowG} {σ : Slots} {M : Tab} {S : Side} {a : Act} {w : World} {P : Program}

theorem StG.frameS (h : StG B0 X I0 w0 n Im β σ M a w) (hs : SideOk w S) (ha : Apart B0 X Im β M S) :
    ∃ X1 : Xs, St w.heap.size X1 Im w n σ M a w ∧ ∀ σ' M' a' w', St w.heap.size X1 Im w n σ' M' a' w' → StF B0 X I0 w0 n σ' M' S a' w' := by
  let X1 : Xs := ⟨fun b => ∃ id e, M id = some e ∧ (β id).nil = false ∧ b = (β id).blk, X.pin, X.lo⟩
  have hX : ∀ b, X1.blk b → B0 ≤ b ∨ X.blk b := by
    rintro b ⟨id, e, h1, h2, rfl⟩
    exact h.own id e h1 h2
  have hXS : ∀ b, X1.blk b → ¬ inS S b := by
    rintro b ⟨id, e, h1, h2, rfl⟩
    exact ha.tab id e h1 h2
  refine ⟨X1, ⟨Im, β, { h with own := fun id e h1 h2 => .inr ⟨id, e, h1, h2, rfl⟩, base := Nat.le_refl _, fr := Fr.refl _ _ _, imo := fun b hb => .inl hb, pin := h.pin, small := h.small }⟩, ?_⟩
  rintro σ' M' a' w' ⟨Im', β', g⟩
  have himo : ∀ b, Im' b → (I0 b ∨ B0 ≤ b ∨ X.blk b) ∧ ¬ inS S b := by
    intro b hb
    rcases g.imo b hb with h1 | h1 | h1
    · exact ⟨h.imo b h1, fun h2 => ha.im b h2 h1⟩
    · exact ⟨.inr (.inl (Nat.le_trans h.base h1)), fun h2 => absurd (hs.lt h2) (Nat.not_lt.2 h1)⟩
    · exact ⟨.inr (hX b h1), hXS b h1⟩
  have hnx : ∀ k, k < B0 → ¬ X.blk k → ¬ X1.blk k := by
    intro k hk hx h1
    rcases hX k h1 with h2 | h2
    · omega
    · exact hx h2
  refine ⟨Im', β', { g with own := ?_, base := Nat.le_trans h.base g.base, fr := ?_, imo := fun b hb => (himo b hb).1, pin := g.pin, small := g.small }, ?_, ⟨fun b hb hi => (himo b hi).2 hb, ha.own, ?_⟩⟩
  · intro id e he hn
    rcases g.own id e he hn with h1 | h1
    · exact .inl (Nat.le_trans h.base h1)
    · exact hX _ h1
  · exact ⟨g.fr.os.trans h.fr.os, g.fr.tape.trans h.fr.tape, g.fr.output.trans h.fr.output, Nat.le_trans h.fr.size g.fr.size, fun k hk hx => (g.fr.block k (Nat.lt_of_lt_of_le hk h.base) (hnx k hk hx)).trans (h.fr.block k hk hx)⟩
  · exact hs.move fun b hb => g.fr.block b (hs.lt hb) fun h1 => hXS b h1 hb
  · intro id e he hn hb
    rcases g.own id e he hn with h1 | h1
    · exact absurd (hs.lt hb) (Nat.not_lt.2 h1)
    · exact hXS _ h1 hb

theorem StG.besideS (h : StG B0 X I0 w0 n Im β σ M a w) {w' : World} {Z : Nat → Prop} (hf : Fr w.heap.size Z w w') (h1 : ∀ b, Z b → ¬ Im b) (h2 : ∀ id e, M id = some e → (β id).nil = false → ¬ Z (β id).blk) (h3 : ∀ b, Z b → B0 ≤ b ∨ X.blk b) :
    StG B0 X I0 w0 n Im β σ M a w' := by
  have hcell : ∀ b o, Im b → w'.cell? ⟨b, o, none⟩ = w.cell? ⟨b, o, none⟩ := fun b o hb =>
    World.cell?_of_block (w := w) (hf.block b (h.im b hb) fun hz => h1 b hz hb)
  refine { h with slots := fun i hi => Rv_mono hcell (fun _ hb => hb) (Agree.refl _ _) _ _ (h.slots i hi), im := fun b hb => Nat.lt_of_lt_of_le (h.im b hb) hf.size, tab := ?_, base := Nat.le_trans h.base hf.size, fr := ?_, pin := h.pin, small := h.small }
  · intro id e he
    exact EntOk_mono hcell (fun _ hb => hb) (Agree.refl _ _) (fun hn => h.not_im he hn) (fun hn => hf.block _ (h.blk_lt he hn) (h2 id e he hn)) e (h.tab id e he)
  · refine h.fr.trans ⟨hf.os, hf.tape, hf.output, hf.size, fun b hb hx => hf.block b (Nat.lt_of_lt_of_le hb h.base) fun hz => ?_⟩
    rcases h3 b hz with h4 | h4
    · omega
    · exact hx h4
end

/-! ### the judgement -/
def ExOk (x : Ex) (e : Exit) : Prop := match x with | .normal => e = .normal | .exit id => e = .exit id | .ret => e = .ret
def TrF (P : Program) (n : Nat) (c : Code) (Q : Ex → Slots → Tab → Side → Prop) (σ : Slots) (M : Tab) (S : Side) : Prop :=
  ∀ (B0 : Nat) (X : Xs) (I0 : Nat → Prop) (w0 : World) (a : Act) (w : World), StF B0 X I0 w0 n σ M S a w →
    c.wp P (fun e a' w' => ∃ x σ' M' S', StF B0 X I0 w0 n σ' M' S' a' w' ∧ Q x σ' M' S' ∧ ExOk x e) a w
def ThenF (P : Program) (n : Nat) (d : Code) (Q : Ex → Slots → Tab → Side → Prop) : Ex → Slots → Tab → Side → Prop
  | .normal, σ, M, S => TrF P n d Q σ M S
  | e, σ, M, S => Q e σ M S
def InBlkF (id : Nat) (Q : Ex → Slots → Tab → Side → Prop) : Ex → Slots → Tab → Side → Prop
  | .normal, σ, M, S => Q .normal σ M S
  | .exit i, σ, M, S => if i = id then Q .normal σ M S else Q (.exit i) σ M S
  | .ret, σ, M, S => Q .ret σ M S
def Sp (P : Program) (n : Nat) (o : Oper) (σ : Slots) (M : Tab) (S : Side) (K : Slots → Tab → Side → Prop) : Prop :=
  ∀ (B0 : Nat) (X : Xs) (I0 : Nat → Prop) (w0 : World) (a : Act) (w : World), StF B0 X I0 w0 n σ M S a w →
    ∀ (K' : Act → World → Prop) (Q' : Exit → Act → World → Prop), (∀ σ' M' S' a' w', StF B0 X I0 w0 n σ' M' S' a' w' → K σ' M' S' → K' a' w') → o.wp P a w K' Q'
def gOk (ops : Array Oper) (σ : Slots) : Option (Nat × Bool) → Prop
  | none => True
  | some (j, want) => ∃ d, (ops[j]?).bind (·.dst) = some d ∧ σ d = .bool want

section
variable {P : Program} {n : Nat} {Q : Ex → Slots → Tab → Side → Prop} {σ : Slots} {M : Tab} {S : Side}

theorem TrF.of {c : Code} (h : Tr P n c (fun x σ M => Q x σ M S) σ M) : TrF P n c Q σ M S := by
  rintro B0 X I0 w0 a w ⟨Im, β, hg, hs, ha⟩
  obtain ⟨X1, h1, h2⟩ := hg.frameS hs ha
  refine wp_mono (h _ _ _ _ a w h1) ?_
  rintro e a' w' ⟨x, σ', M', h3, h4, h5⟩
  exact ⟨x, σ', M', S, h2 _ _ _ _ h3, h4, h5⟩
theorem TrF.weak {c : Code} {σ' : Slots} {M' : Tab} (hi : Imp n σ M σ' M') (h : TrF P n c Q σ' M' S) : TrF P n c Q σ M S := by
  rintro B0 X I0 w0 a w ⟨Im, β, hg, hs, ha⟩
  obtain ⟨X1, h1, h2⟩ := hg.frameS hs ha
  exact h _ _ _ _ a w (h2 _ _ _ _ (hi _ _ _ _ _ _ h1))
theorem TrF.seq {c d : Code} (h : TrF P n c (ThenF P n d Q) σ M S) : TrF P n (.seq c d) Q σ M S := fun B0 X I0 w0 a w hs =>
  wp_seq (wp_mono (h B0 X I0 w0 a w hs) fun e a' w' ⟨x, σ', M', S', h1, h2, h3⟩ => by
    cases x with
    | normal => simp only [ExOk] at h3; subst h3; exact h2 B0 X I0 w0 a' w' h1
    | exit id => simp only [ExOk] at h3; subst h3; exact ⟨.exit id, σ', M', S', h1, h2, rfl⟩
    | ret => simp only [ExOk] at h3; subst h3; exact ⟨.ret, σ', M', S', h1, h2, rfl⟩)
theorem f_seq {c d : Code} (h : Tr P n c (fun x σ M => ThenF P n d Q x σ M S) σ M) : TrF P n (.seq c d) Q σ M S := TrF.seq (TrF.of h)
theorem f_then {d : Code} (h : TrF P n d Q σ M S) : ThenF P n d Q .normal σ M S := h
theorem TrF.block {id : Nat} {c : Code} (h : TrF P n c (InBlkF id Q) σ M S) : TrF P n (.block id c) Q σ M S := fun B0 X I0 w0 a w hs =>
  wp_block (wp_mono (h B0 X I0 w0 a w hs) fun e a' w' ⟨x, σ', M', S', h1, h2, h3⟩ => by
    cases x with
    | normal => simp only [ExOk] at h3; subst h3; exact ⟨.normal, σ', M', S', h1, h2, rfl⟩
    | ret => simp only [ExOk] at h3; subst h3; exact ⟨.ret, σ', M', S', h1, h2, rfl⟩
    | exit i =>
      simp only [ExOk] at h3; subst h3
      by_cases hi : i = id
      · simp only [InBlkF, if_pos hi] at h2
        simp only [Exit.inBlock, if_pos hi]
        exact ⟨.normal, σ', M', S', h1, h2, by simp [ExOk]⟩
      · simp only [InBlkF, if_neg hi] at h2
        simp only [Exit.inBlock, if_neg hi]
        exact ⟨.exit i, σ', M', S', h1, h2, rfl⟩)
theorem TrF.ret (h : Q .ret σ M S) : TrF P n .ret Q σ M S := fun _ _ _ _ _ _ hs => wp_ret ⟨.ret, σ, M, S, hs, h, rfl⟩
def RndF {α : Type} (n : Nat) (Q : Ex → Slots → Tab → Side → Prop) (SL : α → List (Nat × D)) (T : α → List (Nat × Ent)) (V : α → Side) (I : α → Prop) (μ : α → Nat) (k : Nat) : Ex → Slots → Tab → Side → Prop
  | .normal, σ, M, S => ∃ a, Imp n σ M (mk (SL a)) (mkT (T a)) ∧ S = V a ∧ I a ∧ μ a < k
  | .exit i, σ, M, S => Q (.exit i) σ M S
  | .ret, σ, M, S => Q .ret σ M S
theorem f_rnd {α : Type} {SL : α → List (Nat × D)} {T : α → List (Nat × Ent)} {V : α → Side} {I : α → Prop} {μ : α → Nat} {k : Nat} (a : α) (h : Imp n σ M (mk (SL a)) (mkT (T a))) (hv : S = V a) (hi : I a) (hm : μ a < k) : RndF n Q SL T V I μ k .normal σ M S := ⟨a, h, hv, hi, hm⟩
theorem f_loop {α : Type} {c : Code} (SL : α → List (Nat × D)) (T : α → List (Nat × Ent)) (V : α → Side) (I : α → Prop) (μ : α → Nat) (a0 : α)
    (hi : Imp n σ M (mk (SL a0)) (mkT (T a0))) (hv : S = V a0) (h0 : I a0) (round : ∀ a, I a → TrF P n c (RndF n Q SL T V I μ (μ a)) (mk (SL a)) (mkT (T a)) (V a)) : TrF P n (.loop c) Q σ M S := by
  subst hv
  refine TrF.weak hi ?_
  intro B0 X I0 w0 a w hs b kk cs
  have key : ∀ (k : Nat) (x : α) (a : Act) (w : World), μ x = k → I x → StF B0 X I0 w0 n (mk (SL x)) (mkT (T x)) (V x) a w →
      ∃ e a' w', (∃ x σ' M' S', StF B0 X I0 w0 n σ' M' S' a' w' ∧ Q x σ' M' S' ∧ ExOk x e) ∧ Arrives P (lone (b.at a (.code c :: .inLoop c :: kk)) cs w) b kk cs e a' w' := by
    intro k
    induction k using Nat.strongRecOn with
    | _ k ih =>
      intro y a w hk hI hs
      obtain ⟨e, a1, w1, hq, harr⟩ := round y hI B0 X I0 w0 a w hs b (.inLoop c :: kk) cs
      obtain ⟨x, σ', M', S', h1, h2, h3⟩ := hq
      cases x with
      | normal =>
        simp only [ExOk] at h3
        subst h3
        obtain ⟨y', hi, rfl, hI', hlt⟩ := h2
        obtain ⟨Im, β, hg, hs', ha⟩ := h1
        obtain ⟨X1, h4, h5⟩ := hg.frameS hs' ha
        obtain ⟨e2, a2, w2, hq2, harr2⟩ := ih (μ y') (by omega) y' a1 w1 rfl hI' (h5 _ _ _ _ (hi _ _ _ _ _ _ h4))
        exact ⟨e2, a2, w2, hq2, .of_steps (Steps.trans harr (.one step_inLoop)) harr2⟩
      | exit id => simp only [ExOk] at h3; subst h3; exact ⟨_, a1, w1, ⟨.exit id, σ', M', S', h1, h2, rfl⟩, .pass (x := .inLoop c) rfl (fun _ _ => .inl (by simp)) harr⟩
      | ret => simp only [ExOk] at h3; subst h3; exact ⟨_, a1, w1, ⟨.ret, σ', M', S', h1, h2, rfl⟩, .pass (x := .inLoop c) rfl (fun _ _ => .inl (by simp)) harr⟩
  obtain ⟨e, a', w', hq, harr⟩ := key _ a0 a w rfl h0 hs
  exact ⟨e, a', w', hq, .of_steps (.one step_loop) harr⟩

section
variable {B0 : Nat} {X : Xs} {I0 : Nat → Prop} {w0 : World}
theorem aOps_app {ops : Array Oper} {R : Exit → Act → World → Prop} {l2 : List Oper} : ∀ (l : List Oper) (σ : Slots) (M : Tab) (a : Act) (w : World) (K : Slots → Tab → Prop), St B0 X I0 w0 n σ M a w → aOps P n ops l σ M K →
    (∀ σ M a w, St B0 X I0 w0 n σ M a w → K σ M → wpList P ops R l2 a w) → wpList P ops R (l ++ l2) a w
  | [], σ, M, a, w, K, hs, hq, hK => hK σ M a w hs hq
  | o :: rest, σ, M, a, w, K, hs, hq, hK => by
    obtain ⟨Im, β, h⟩ := hs
    simp only [aOps] at hq
    rw [List.cons_append]
    refine wpList_step fun K' hK' => ?_
    have yes : stp P n o.dst o.op σ M (fun σ' M' => aOps P n ops rest σ' M' K) → o.wp P a w K' R := fun hst =>
      stp_sound h hst K' R (fun σ' M' a' w' hs' hk => hK' a' w' (aOps_app rest σ' M' a' w' K hs' hk hK))
    have no : skipQ n o.dst σ (fun σ' => aOps P n ops rest σ' M K) → K' (a.put o.dst undef) w := by
      intro hsk
      unfold skipQ at hsk
      split at hsk
      · rename_i d hd
        rw [hd]
        exact hK' _ _ (aOps_app rest _ M _ w K ⟨Im, β, h.skip hsk.1⟩ hsk.2 hK)
      · rename_i hd
        rw [hd]
        exact hK' _ _ (aOps_app rest _ M _ w K ⟨Im, β, h⟩ hsk hK)
    unfold guardQ at hq
    split at hq
    · rename_i hg
      rw [if_pos (by simp [Region.wanted, hg])]
      exact yes hq
    · rename_i j want hg
      split at hq
      · rename_i d hd
        obtain ⟨y1, y2⟩ := yielded_of h hd
        unfold grdQ at hq
        split at hq
        · rename_i b hb
          have hy := y1 b hb
          cases b <;> cases want <;> simp only at hq
          · rw [if_pos (by simp [Region.wanted, hg, hy])]
            exact yes (hq.1 (by simp))
          · rw [if_neg (by simp [Region.wanted, hg, hy])]
            exact no (hq.2 (by simp))
          · rw [if_neg (by simp [Region.wanted, hg, hy])]
            exact no (hq.2 (by simp))
          · rw [if_pos (by simp [Region.wanted, hg, hy])]
            exact yes (hq.1 (by simp))
        · rename_i hb
          rw [if_neg (by simp [Region.wanted, hg, y2 hb])]
          exact no hq
        · exact hq.elim
      · rename_i hd
        rw [if_neg (by simp [Region.wanted, hg, yielded, hd])]
        exact no hq
end

theorem f_region {id : Nat} (l1 : List Oper) (o : Oper) (l2 : List Oper) {ops : Array Oper} (he : ops.toList = l1 ++ o :: l2)
    (h : aOps P n ops l1 σ M fun σ' M' => gOk ops σ' o.guard ∧ Sp P n o σ' M' S fun σ2 M2 S2 => aOps P n ops l2 σ2 M2 fun σ3 M3 => Q .normal σ3 M3 S2) : TrF P n (.region id ops false) Q σ M S := by
  rintro B0 X I0 w0 a w ⟨Im, β, hg, hs, ha⟩
  obtain ⟨X1, h1, h2⟩ := hg.frameS hs ha
  refine wp_region_list ?_
  rw [he]
  refine aOps_app l1 σ M a w _ h1 h ?_
  rintro σ' M' a' w' h3 ⟨hgd, hsp⟩
  obtain ⟨Im', β', hg', hs', ha'⟩ := h2 _ _ _ _ h3
  refine wpList_step fun K' hK' => ?_
  have hgo : o.wp P a' w' K' (fun e a' w' => ∃ x σ' M' S', StF B0 X I0 w0 n σ' M' S' a' w' ∧ Q x σ' M' S' ∧ ExOk x e) := hsp B0 X I0 w0 a' w' ⟨Im', β', hg', hs', ha'⟩ K' _ (by
    rintro σ2 M2 S2 a2 w2 ⟨Im2, β2, hg2, hs2, ha2⟩ hk
    obtain ⟨X2, h4, h5⟩ := hg2.frameS hs2 ha2
    refine hK' a2 w2 (aOps_sound l2 σ2 M2 a2 w2 _ h4 hk ?_)
    intro σ3 M3 a3 w3 h6 h7
    exact ⟨.normal, σ3, M3, S2, h5 _ _ _ _ h6, h7, rfl⟩)
  cases hgu : o.guard with
  | none => rw [if_pos (by simp [Region.wanted, hgu])]; exact hgo
  | some p =>
    obtain ⟨j, want⟩ := p
    rw [hgu] at hgd
    obtain ⟨d, hd, hb⟩ := hgd
    have hy := (yielded_of hg' hd).1 want hb
    rw [if_pos (by simp [Region.wanted, hgu, hy])]
    exact hgo
end
end Go.Proofs.Ytmiclkgkfkcnoaa

/- Calls that read, make or write what lies beside the state; whole functions. -/
namespace Go.Proofs.Ytmiclkgkfkcnoaa
open Go.RowKit
set_option linter.unusedVariables false

def Opn (S : Side) (d c : D) : Prop := ∀ (w : World) (Im : Nat → Prop) (v : Value), SideOk w S → Rc w Im d v → Rc w (fun b => Im b ∨ inS S b) c v
def OpnL (S : Side) : List D → List D → Prop
  | [], [] => True
  | d :: ds, c :: cs => Opn S d c ∧ OpnL S ds cs
  | _, _ => False
def OpnR (S : Side) : List (List D) → List (List D) → Prop
  | [], [] => True
  | r :: rs, r' :: rs' => OpnL S r r' ∧ OpnR S rs rs'
  | _, _ => False
theorem opn_refl (S : Side) (d : D) : Opn S d d := fun w Im v _ h => Rc_mono (fun _ _ _ => rfl) (fun _ hb => .inl hb) _ _ h
theorem OpnL.rc {S : Side} {w : World} {Im : Nat → Prop} (hs : SideOk w S) : ∀ (ds cs : List D) (vs : List Value), OpnL S ds cs → RcL w Im ds vs → RcL w (fun b => Im b ∨ inS S b) cs vs
  | [], [], vs, _, h => by simpa [RcL] using h
  | d :: ds, c :: cs, vs, ho, h => by
    simp only [RcL, OpnL] at ho h ⊢
    obtain ⟨v, r, rfl, h1, h2⟩ := h
    exact ⟨v, r, rfl, ho.1 w Im v hs h1, OpnL.rc hs ds cs r ho.2 h2⟩
  | [], _ :: _, _, ho, _ => by simp [OpnL] at ho
  | _ :: _, [], _, ho, _ => by simp [OpnL] at ho
theorem OpnR.rc {S : Side} {w : World} {Im : Nat → Prop} (hs : SideOk w S) {s : Nat} : ∀ (rs rs' : List (List D)) (l : List Value), OpnR S rs rs' → RcRowsL w Im rs s l → RcRowsL w (fun b => Im b ∨ inS S b) rs' s l
  | [], [], l, _, h => by simp [RcRowsL]
  | r :: rs, r' :: rs', l, ho, h => by
    simp only [RcRowsL, OpnR] at ho h ⊢
    obtain ⟨c, rest, rfl, h1, h2, h3⟩ := h
    exact ⟨c, rest, rfl, h1, OpnL.rc hs _ _ _ ho.1 h2, OpnR.rc hs rs rs' rest ho.2 h3⟩
  | [], _ :: _, _, ho, _ => by simp [OpnR] at ho
  | _ :: _, [], _, ho, _ => by simp [OpnR] at ho
theorem OpnR.len {S : Side} : ∀ (rs rs' : List (List D)), OpnR S rs rs' → rs.length = rs'.length
  | [], [], _ => rfl
  | r :: rs, r' :: rs', h => by simp only [OpnR] at h; simp [OpnR.len rs rs' h.2]
  | [], _ :: _, ho => by simp [OpnR] at ho
  | _ :: _, [], ho => by simp [OpnR] at ho
theorem OpnL.refl (S : Side) : ∀ (ds : List D), OpnL S ds ds
  | [] => trivial
  | d :: ds => ⟨opn_refl S d, OpnL.refl S ds⟩
theorem OpnR.refl (S : Side) : ∀ (rs : List (List D)), OpnR S rs rs
  | [] => trivial
  | d :: ds => ⟨OpnL.refl S d, OpnR.refl S ds⟩
theorem opn_rows {S : Side} {g : RowG} {rows rows' : List (List D)} (hm : (g, rows) ∈ S) (hr : OpnR S rows rows') : Opn S (.lv g rows.length) (.sl rows') := by
  intro w Im v hs hv
  simp only [Rc] at hv
  subst hv
  have he := hs.ent _ hm
  have hlen := hr.len
  simp only [SE, EntOk] at he
  simp only [Rc]
  rcases he with ⟨h1, h2⟩ | ⟨h1, _, h3, h4, cur, e, h5, h6, h7, h8⟩
  · rw [h2] at hlen
    have hr' : rows' = [] := List.eq_nil_of_length_eq_zero hlen.symm
    subst hr'
    exact ⟨none, 0, by simp [RowG.val, h1], by simp, .inl rfl⟩
  · refine ⟨some ⟨g.blk, 0, none⟩, g.cap, by rw [RowG.val, h1, hlen]; rfl, by omega, .inr ⟨g.blk, 0, g.sz, rfl, .inr (inS_of hm h1), ?_⟩⟩
    have h9 := OpnR.rc (Im := Im) hs rows rows' cur.toList hr (RcRowsL_scal2 _ _ _ (hs.fl _ hm) h8)
    have key : ∀ (rs : List (List D)) (l : List Value) (o : Nat), (∀ v ∈ l, v.oneCell' = true) → CellsAt w g.blk o l → RcRowsL w (fun b => Im b ∨ inS S b) rs g.sz l → RcRows w (fun b => Im b ∨ inS S b) rs g.sz g.blk o := by
      intro rs
      induction rs with
      | nil => intros; simp [RcRows]
      | cons r rs ih =>
        intro l o ho hc hr
        simp only [RcRowsL] at hr
        obtain ⟨c, rest, rfl, e1, e2, e3⟩ := hr
        simp only [RcRows]
        have hcl := RcL_length _ _ e2
        refine ⟨by rw [← hcl]; exact e1, ?_, ?_⟩
        · have key2 : ∀ (ds : List D) (vs : List Value) (o : Nat), (∀ v ∈ vs, v.oneCell' = true) → CellsAt w g.blk o vs → RcL w (fun b => Im b ∨ inS S b) ds vs → RcRow w (fun b => Im b ∨ inS S b) ds g.blk o := by
            intro ds
            induction ds with
            | nil => intros; simp [RcRow]
            | cons d ds ih2 =>
              intro vs o hv hc2 hl
              simp only [RcL] at hl
              obtain ⟨v, r', rfl, e4, e5⟩ := hl
              simp only [RcRow]
              refine ⟨⟨v, by simpa using hc2 0 v (by simp), hv v (by simp), e4⟩, ih2 r' (o + 1) (fun x hx => hv x (by simp [hx])) ?_ e5⟩
              have := hc2.drop 1
              simpa using this
          refine key2 r c o (fun v hv => ho v (by simp [hv])) ?_ e2
          have := hc.take c.length
          simpa using this
        · refine ih rest (o + g.sz) (fun v hv => ho v (by simp [hv])) ?_ e3
          have := hc.drop c.length
          rw [e1] at this
          simpa [← e1] using this
    exact key rows' cur.toList 0 h7 (CellsAt.of_heap h5) h9

/-! ### one operation -/
def NCall (P : Program) (f : FuncId) (cs : List D) (R : Side → D → Prop) : Prop :=
  callable P f = true ∧ ∀ (w : World) (vs : List Value) (Im : Nat → Prop), (∀ b, Im b → b < w.heap.size) → RcL w Im cs vs →
    Calls P f vs.toArray w fun e w' => ∃ v S' r, e = .returned v ∧ R S' r ∧ Below w.heap.size w w' ∧ Rc w' (fun _ => False) r v ∧ SideOk w' S' ∧ ∀ b, inS S' b → w.heap.size ≤ b
def SCall (P : Program) (f : FuncId) (cs : List D) (S1 : Side) (r : D) (S2 : Side) : Prop :=
  (callable P f = true ∧ scal r = true ∧ S2.map Prod.fst = S1.map Prod.fst) ∧ ∀ (w : World) (vs : List Value), SideOk w S1 → RcL w (fun _ => False) cs vs →
    Calls P f vs.toArray w fun e w' => ∃ v, e = .returned v ∧ Rc w' (fun _ => False) r v ∧ Fr w.heap.size (inS S1) w w' ∧ SideOk w' S2

section
variable {P : Program} {n : Nat} {σ : Slots} {M : Tab} {S : Side} {f : FuncId} {args : Array Operand} {ts : Array TypeId} {d : Nat} {type : TypeId} {pos : String} {after : Array Edge} {g : Option (Nat × Bool)} {K : Slots → Tab → Side → Prop}

theorem sp_call (hcal : callable P f = true) (hd : d < n)
    (h : ∀ (B0 : Nat) (X : Xs) (I0 : Nat → Prop) (w0 : World) (Im : Nat → Prop) (β : Nat → RowG) (a : Act) (w : World), StG B0 X I0 w0 n Im β σ M a w → SideOk w S → Apart B0 X Im β M S →
      Calls P f (args.toList.map a.eval).toArray w fun e w' => ∃ v S' r, e = .returned v ∧ StG B0 X I0 w0 n Im β σ M a w' ∧ SideOk w' S' ∧ Apart B0 X Im β M S' ∧ Rv w' Im β M r v ∧ K (upd σ d r) M S') :
    Sp P n ⟨some d, .call ⟨.value (.func f), args, ts⟩, type, pos, after, g⟩ σ M S K := by
  rintro B0 X I0 w0 a w ⟨Im, β, hg, hs, ha⟩ K' Q' hk
  have hrun : (execOp a.eval ⟨some d, .call ⟨.value (.func f), args, ts⟩, type, pos, after, g⟩).run P w = .ok (.enter f (args.map a.eval)) w := by
    have hcl := hcal
    unfold callable at hcl
    cases hf : P.funcs[f]? with
    | none => rw [hf] at hcl; cases hcl
    | some fn =>
      rw [hf] at hcl
      simp only [Bool.and_eq_true, bne_iff_ne, ne_eq] at hcl
      obtain ⟨hn, hb⟩ := hcl
      obtain ⟨b, hb⟩ := Option.isSome_iff_exists.1 hb
      simp [execOp, resolve, Act.eval, Deferred.ofValue, invoke, callFunc, hf, hn, hb]
  have e1 : (args.toList.map a.eval).toArray = args.map a.eval := by
    apply Array.toList_inj.1; simp
  have hc := h B0 X I0 w0 Im β a w hg hs ha
  rw [e1] at hc
  unfold Oper.wp
  rw [hrun]
  simp only [Oper.upon]
  refine hc.mono ?_
  rintro e w' ⟨v, S', r, rfl, h5, h6, h7, h8, h9⟩
  exact hk _ _ _ _ _ ⟨Im, β, h5.put hd h8, h6, h7⟩ h9

theorem sp_read (cs : List D) {r : D} (hc : ACall P f cs r []) (hr : scal r = true) (hd : d < n) (hcl : cloL (args.toList.map (ev σ)) = true) (ho : OpnL S (args.toList.map (ev σ)) cs) (hk : K (upd σ d r) M S) :
    Sp P n ⟨some d, .call ⟨.value (.func f), args, ts⟩, type, pos, after, g⟩ σ M S K := by
  refine sp_call hc.1 hd ?_
  intro B0 X I0 w0 Im β a w hg hs ha
  have hx := RcL_of_clo _ _ hcl (RvL_evs hg args.toList)
  refine (hc.2 w _ (fun b => Im b ∨ inS S b) (by rintro b (hb | hb); exact hg.im b hb; exact hs.lt hb) (ho.rc hs _ _ _ hx)).mono ?_
  rintro e w' ⟨v, rfl, hb, Im', β', _, _, hv, _⟩
  refine ⟨v, S, r, rfl, hg.besideS (Z := fun _ => False) ⟨hb.os, hb.tape, hb.output, hb.size, fun k hk _ => hb.block k hk⟩ (fun _ h => h.elim) (fun _ _ _ _ h => h) (fun _ h => h.elim), hs.move (fun b hb' => hb.block b (hs.lt hb')), ha, ?_, hk⟩
  cases r <;> simp [scal] at hr <;> simpa [Rv, Rc] using hv

theorem sp_new (cs : List D) {R : Side → D → Prop} (hc : NCall P f cs R) (hd : d < n) (hcl : cloL (args.toList.map (ev σ)) = true) (ho : OpnL S (args.toList.map (ev σ)) cs) (hk : ∀ S' r, R S' r → K (upd σ d r) M (S ++ S')) :
    Sp P n ⟨some d, .call ⟨.value (.func f), args, ts⟩, type, pos, after, g⟩ σ M S K := by
  refine sp_call hc.1 hd ?_
  intro B0 X I0 w0 Im β a w hg hs ha
  have hx := RcL_of_clo _ _ hcl (RvL_evs hg args.toList)
  refine (hc.2 w _ (fun b => Im b ∨ inS S b) (by rintro b (hb | hb); exact hg.im b hb; exact hs.lt hb) (ho.rc hs _ _ _ hx)).mono ?_
  rintro e w' ⟨v, S', r, rfl, hR, hb, hv, hs', hnew⟩
  refine ⟨v, S ++ S', r, rfl, hg.besideS (Z := fun _ => False) ⟨hb.os, hb.tape, hb.output, hb.size, fun k hk _ => hb.block k hk⟩ (fun _ h => h.elim) (fun _ _ _ _ h => h) (fun _ h => h.elim), ?_, ?_, Rv_of_Rc _ _ (Rc_mono (fun _ _ _ => rfl) (fun _ h => h.elim) _ _ hv), hk S' r hR⟩
  · have h1 := hs.move (w' := w') (fun b hb' => hb.block b (hs.lt hb'))
    refine ⟨fun p hp => (List.mem_append.1 hp).elim (h1.ent p) (hs'.ent p), fun p hp => (List.mem_append.1 hp).elim (h1.fl p) (hs'.fl p), ?_⟩
    rw [List.map_append]
    refine List.pairwise_append.2 ⟨h1.dis, hs'.dis, ?_⟩
    intro x hx y hy hnx hny he
    have h2 := hs.lt (b := x.blk) ⟨x, hx, hnx, rfl⟩
    have h3 := hnew y.blk ⟨y, hy, hny, rfl⟩
    omega
  · refine ⟨fun b hb' hi => ?_, fun b hb' => ?_, fun id e he hn hb' => ?_⟩
    · rcases inS_app.1 hb' with h2 | h2
      · exact ha.im b h2 hi
      · have := hg.im b hi; have := hnew b h2; omega
    · rcases inS_app.1 hb' with h2 | h2
      · exact ha.own b h2
      · exact .inl (Nat.le_trans hg.base (hnew b h2))
    · rcases inS_app.1 hb' with h2 | h2
      · exact ha.tab id e he hn h2
      · have := hg.blk_lt he hn; have := hnew _ h2; omega

theorem SideOk.part {w : World} {p s q : Side} (h : SideOk w (p ++ s ++ q)) : SideOk w s := by
  refine ⟨fun x hx => h.ent x (by simp [hx]), fun x hx => h.fl x (by simp [hx]), ?_⟩
  have := h.dis
  rw [List.map_append, List.map_append] at this
  exact (List.pairwise_append.1 (List.pairwise_append.1 this).1).2.1

theorem sp_mut (cs : List D) {r : D} {p s s' q : Side} (hc : SCall P f cs s r s') (hd : d < n) (hS : S = p ++ s ++ q) (hx : args.toList.map (ev σ) = cs) (hsc : cs.all scal = true) (hk : K (upd σ d r) M (p ++ s' ++ q)) :
    Sp P n ⟨some d, .call ⟨.value (.func f), args, ts⟩, type, pos, after, g⟩ σ M S K := by
  subst hS
  obtain ⟨⟨hcal, hscal, hfst⟩, hcc⟩ := hc
  refine sp_call hcal hd ?_
  intro B0 X I0 w0 Im β a w hg hs ha
  have hsc' : ∀ d ∈ cs, scal d = true := fun d hd => List.all_eq_true.1 hsc d hd
  have hv := RvL_evs hg args.toList
  rw [hx] at hv
  have hv2 : RcL w Im cs (args.toList.map a.eval) := by
    refine RcL_of_clo _ _ ?_ hv
    clear hcc hx hk hv hsc
    induction cs with
    | nil => rfl
    | cons d ds ih =>
      simp only [cloL, Bool.and_eq_true]
      refine ⟨?_, ih fun x hx => hsc' x (by simp [hx])⟩
      have := hsc' d (by simp)
      cases d <;> simp [scal] at this <;> rfl
  have hin : ∀ b, inS s b → inS (p ++ s ++ q) b := fun b hb => inS_app.2 (.inl (inS_app.2 (.inr hb)))
  have hall : (p ++ s' ++ q).map Prod.fst = (p ++ s ++ q).map Prod.fst := by simp only [List.map_append, hfst]
  refine (hcc w _ hs.part (RcL_scal2 _ _ hsc' hv2)).mono ?_
  rintro e w' ⟨v, rfl, hrv, hf, hs'⟩
  have hd1 := hs.dis
  rw [List.map_append, List.map_append] at hd1
  have hd2 := List.pairwise_append.1 hd1
  have hd3 := List.pairwise_append.1 hd2.1
  have mvp : ∀ x ∈ p, SE w' x.1 x.2 := fun x hx => (hs.ent x (by simp [hx])).move (hs.fl x (by simp [hx])) fun hn => hf.block _ ((hs.ent x (by simp [hx])).lt hn) (by
    rintro ⟨y, hy, hny, he⟩
    exact hd3.2.2 x.1 (List.mem_map.2 ⟨x, hx, rfl⟩) y hy hn hny he)
  have mvq : ∀ x ∈ q, SE w' x.1 x.2 := fun x hx => (hs.ent x (by simp [hx])).move (hs.fl x (by simp [hx])) fun hn => hf.block _ ((hs.ent x (by simp [hx])).lt hn) (by
    rintro ⟨y, hy, hny, he⟩
    exact hd2.2.2 y (List.mem_append.2 (.inr hy)) x.1 (List.mem_map.2 ⟨x, hx, rfl⟩) hny hn he.symm)
  refine ⟨v, p ++ s' ++ q, r, rfl, hg.besideS hf (fun b hb => ha.im b (hin b hb)) (fun id e he hn hb => ha.tab id e he hn (hin _ hb)) (fun b hb => ha.own b (hin b hb)), ⟨?_, ?_, by rw [hall]; exact hs.dis⟩, ⟨fun b hb => ha.im b ((inS_congr hall b).1 hb), fun b hb => ha.own b ((inS_congr hall b).1 hb), fun id e he hn hb => ha.tab id e he hn ((inS_congr hall _).1 hb)⟩, Rv_scal hscal hrv, hk⟩
  · intro x hx
    rcases List.mem_append.1 hx with hx | hx
    · rcases List.mem_append.1 hx with hx | hx
      · exact mvp x hx
      · exact hs'.ent x hx
    · exact mvq x hx
  · intro x hx
    rcases List.mem_append.1 hx with hx | hx
    · rcases List.mem_append.1 hx with hx | hx
      · exact hs.fl x (by simp [hx])
      · exact hs'.fl x hx
    · exact hs.fl x (by simp [hx])
end
end Go.Proofs.Ytmiclkgkfkcnoaa

/- Whole functions that make rows beside the state, or write into them. -/
namespace Go.Proofs.Ytmiclkgkfkcnoaa
open Go.RowKit
set_option linter.unusedVariables false

def FinF (P : Program) (rl : List ResultVar) (G : D → Tab → Side → Prop) : Ex → Slots → Tab → Side → Prop
  | .exit _, _, _, _ => False
  | _, σ, M, S => resQ P σ M rl fun ds => G (packD ds) M S

mutual
def nsD (g : RowG) (n : Nat) : D → D
  | .fs _ => .lv g n
  | .agg cs => .agg (nsL g n cs)
  | .tup cs => .tup (nsL g n cs)
  | .ptr id i off => .ptr id i off
  | .int k n => .int k n
  | .bool b => .bool b
  | .str s => .str s
  | .nov => .nov
  | .any => .any
  | .nl => .nl
  | .sl rows => .sl rows
  | .ep row off => .ep row off
  | .lv g' n' => .lv g' n'
  | .fp .. => .any
def nsL (g : RowG) (n : Nat) : List D → List D
  | [] => []
  | d :: ds => nsD g n d :: nsL g n ds
end

section
variable {P : Program} {n : Nat} {w : World} {Im : Nat → Prop} {β : Nat → RowG} {M : Nat → Option Ent}

mutual
theorem Rc_ns {Im' : Nat → Prop} {rows : List (List D)} (hM : M = tabOf [rows]) : ∀ (d : D) (v : Value), noSl d = true → noPtr d = true → Rv w Im β M d v → Rc w Im' (nsD (β 0) rows.length d) v
  | .int .., _, _, _, hv | .bool _, _, _, _, hv | .str _, _, _, _, hv | .nov, _, _, _, hv | .lv .., _, _, _, hv | .nl, _, _, _, hv => by
    simp only [Rv, Rc, nsD] at hv ⊢
    exact hv
  | .any, _, hn, _, _ | .sl _, _, hn, _, _ | .ep .., _, hn, _, _ => by simp [noSl] at hn
  | .ptr .., _, _, hp, _ => by simp [noPtr] at hp
  | .fp .., _, _, _, _ => by simp [nsD, Rc]
  | .fs k, v, _, _, hv => by
    subst hM
    simp only [Rv, nsD, Rc] at hv ⊢
    obtain ⟨m, h1, rfl⟩ := hv
    match k, h1 with
    | 0, h1 => simp [tabOf, Ent.len] at h1; rw [h1]
    | k + 1, h1 => simp [tabOf] at h1
  | .agg cs, v, hn, hp, hv => by
    simp only [Rv, Rc, nsD, noSl, noPtr] at hv hn hp ⊢
    obtain ⟨x, rfl, hv⟩ := hv
    exact ⟨x, rfl, RcL_ns hM cs x hn hp hv⟩
  | .tup cs, v, hn, hp, hv => by
    simp only [Rv, Rc, nsD, noSl, noPtr] at hv hn hp ⊢
    obtain ⟨x, rfl, hv⟩ := hv
    exact ⟨x, rfl, RcL_ns hM cs x hn hp hv⟩
theorem RcL_ns {Im' : Nat → Prop} {rows : List (List D)} (hM : M = tabOf [rows]) : ∀ (ds : List D) (vs : List Value), noSlL ds = true → noPtrL ds = true → RvL w Im β M ds vs → RcL w Im' (nsL (β 0) rows.length ds) vs
  | [], _, _, _, hv => by simpa [RvL, RcL, nsL] using hv
  | d :: ds, vs, hn, hp, hv => by
    simp only [RvL, RcL, nsL, noSlL, noPtrL, Bool.and_eq_true] at hv hn hp ⊢
    obtain ⟨v, r, rfl, h1, h2⟩ := hv
    exact ⟨v, r, rfl, Rc_ns hM d v hn.1 hp.1 h1, RcL_ns hM ds r hn.2 hp.2 h2⟩
end

theorem ncall_of {f : FuncId} {cs : List D} {r : D} {rows : List (List D)} (hc : ACall P f cs r [rows]) (hn : noSl r = true) (hp : noPtr r = true) (hf : FlatRows rows) : NCall P f cs fun S r' => ∃ g, S = [(g, rows)] ∧ r' = nsD g rows.length r := by
  refine ⟨hc.1, fun w vs Im him hvs => (hc.2 w vs Im him hvs).mono ?_⟩
  rintro e w' ⟨v, rfl, hb, Im', β, h1, h2, hv, h3, h4⟩
  obtain ⟨h5, h6⟩ := h3 0 rows rfl
  refine ⟨v, [(β 0, rows)], _, rfl, ⟨β 0, rfl, rfl⟩, hb, Rc_ns rfl r v hn hp hv, ⟨?_, ?_, by simp⟩, ?_⟩
  · intro p hq; simp at hq; subst hq; exact SE.of h5 hf
  · intro p hq; simp at hq; subst hq; exact hf
  · rintro b ⟨g, hg, hnil, rfl⟩
    simp at hg; subst hg; exact h6 hnil

mutual
theorem Rv_ns {g : RowG} {rows : List (List D)} : ∀ (d : D) (v : Value), fsLt 1 d = true → Rc w Im (nsD g rows.length d) v → Rv w Im (fun _ => g) (tabOf [rows]) d v
  | .int .., _, _, hv | .bool _, _, _, hv | .str _, _, _, hv | .nov, _, _, hv | .lv .., _, _, hv | .nl, _, _, hv | .any, _, _, hv | .sl _, _, _, hv | .ep .., _, _, hv => by
    simp only [Rv, nsD] at hv ⊢
    exact hv
  | .ptr .., _, hf, _ | .fp .., _, hf, _ => by simp [fsLt] at hf
  | .fs k, v, hf, hv => by
    simp only [fsLt, decide_eq_true_eq] at hf
    obtain rfl : k = 0 := by omega
    simp only [Rv, nsD, Rc] at hv ⊢
    exact ⟨rows.length, by simp [tabOf, Ent.len], hv⟩
  | .agg cs, v, hf, hv => by
    simp only [Rv, Rc, nsD, fsLt] at hv hf ⊢
    obtain ⟨x, rfl, hv⟩ := hv
    exact ⟨x, rfl, RvL_ns cs x hf hv⟩
  | .tup cs, v, hf, hv => by
    simp only [Rv, Rc, nsD, fsLt] at hv hf ⊢
    obtain ⟨x, rfl, hv⟩ := hv
    exact ⟨x, rfl, RvL_ns cs x hf hv⟩
theorem RvL_ns {g : RowG} {rows : List (List D)} : ∀ (ds : List D) (vs : List Value), fsLtL 1 ds = true → RcL w Im (nsL g rows.length ds) vs → RvL w Im (fun _ => g) (tabOf [rows]) ds vs
  | [], _, _, hv => by simpa [RvL, RcL, nsL] using hv
  | d :: ds, vs, hf, hv => by
    simp only [RvL, RcL, nsL, fsLtL, Bool.and_eq_true] at hv hf ⊢
    obtain ⟨v, r, rfl, h1, h2⟩ := hv
    exact ⟨v, r, rfl, Rv_ns d v hf.1 h1, RvL_ns ds r hf.2 h2⟩
end

theorem scall_of {f : FuncId} {xs : List D} {rows rows' : List (List D)} {r : D} (hc : MCall P f xs [rows] r [rows']) (g : RowG) : SCall P f (nsL g rows.length xs) [(g, rows)] r [(g, rows')] := by
  obtain ⟨⟨h1, h2, h3, h4, h5⟩, hcc⟩ := hc
  refine ⟨⟨h1, h2, rfl⟩, fun w vs hs hvs => ?_⟩
  refine (hcc w vs (fun _ => False) (fun _ => g) (fun _ h => h.elim) (RvL_ns xs vs h3 hvs) ?_ ?_).mono ?_
  · intro k rs hk
    match k, hk with
    | 0, hk =>
      simp at hk; subst hk
      exact (hs.ent (g, rows) (by simp)).ent (hs.fl (g, rows) (by simp)) (fun _ h => h)
    | k + 1, hk => simp at hk
  · intro k k' hk hk' _ _ _
    simp at hk hk'; omega
  · rintro e w' ⟨v, rfl, hv, hf, he⟩
    refine ⟨v, rfl, hv, ⟨hf.os, hf.tape, hf.output, hf.size, fun b hb hz => hf.block b hb ?_⟩, ⟨?_, ?_, by simp⟩⟩
    · rintro ⟨k, hk, hn, hbb⟩
      exact hz ⟨g, by simp, hn, hbb⟩
    · intro p hp; simp at hp; subst hp
      exact SE.of (he 0 rows' rfl) (h5 rows' (by simp))
    · intro p hp; simp at hp; subst hp
      exact h5 rows' (by simp)

/-! ### from the body -/
theorem init_slots {m : Nat} {ds : List D} {vs : List Value} (h : RvL w Im β M ds vs) (hn : ds.length ≤ m) : ∀ i, i < m → Rv w Im β M (ds.getD i .nov) ((vs.toArray ++ Array.replicate (m - vs.toArray.size) undef).getD i undef) := by
  intro i hi
  have hlen := RvL_length _ _ h
  rcases Nat.lt_or_ge i ds.length with hlt | hge
  · have h1 : ds[i]? = some (ds.getD i .nov) := by simp [List.getD, hlt]
    obtain ⟨v, h2, h3⟩ := RvL_get _ _ i _ h h1
    have hiv : i < vs.length := by omega
    have h4 : (vs.toArray ++ Array.replicate (m - vs.toArray.size) undef).getD i undef = v := by
      simp [Array.getElem?_append, hiv]
      simpa [hiv] using h2
    rw [h4]
    exact h3
  · have h1 : ds.getD i .nov = .nov := by simp [List.getD, hge]
    rw [h1]
    have h4 : (vs.toArray ++ Array.replicate (m - vs.toArray.size) undef).getD i undef = undef := by
      simp [Array.getElem?_append, show ¬ i < vs.length by omega]
      simp only [Array.getElem?_replicate]
      split <;> rfl
    rw [h4]
    simp [Rv, Rc]

theorem calls_body {f : FuncId} {fn : Func} {c : Code} {G : D → Tab → Side → Prop} {X : Xs} {I0 : Nat → Prop} {σ : Slots} {S : Side} {vs : List Value} (hf : P.funcs[f]? = some fn) (hb : fn.body = some c)
    (hst : StF w.heap.size X I0 w fn.ntmps σ M S { tmps := vs.toArray ++ Array.replicate (fn.ntmps - vs.toArray.size) undef, defers := [] } w)
    (h : TrF P fn.ntmps c (FinF P fn.results.toList G) σ M S) :
    Calls P f vs.toArray w fun e w' => ∃ v σ' M' S' Im' β' a' d, e = .returned v ∧ StG w.heap.size X I0 w fn.ntmps Im' β' σ' M' a' w' ∧ SideOk w' S' ∧ Apart w.heap.size X Im' β' M' S' ∧ Rv w' Im' β' M' d v ∧ G d M' S' := by
  refine calls_of_wp hf hb (wp_mono (h _ _ _ _ _ _ hst) ?_)
  rintro e a' w' ⟨x, σ', M', S', ⟨Im', β', hg, hs, ha⟩, hq, hx⟩
  have main : resQ P σ' M' fn.results.toList (fun ds => G (packD ds) M' S') → a'.defers = [] ∧ ∃ v, (results fn a'.tmps).run P w' = .ok v w' ∧ ∃ v' σ' M' S' Im' β' a' d, Ending.returned v = .returned v' ∧ StG w.heap.size X I0 w fn.ntmps Im' β' σ' M' a' w' ∧ SideOk w' S' ∧ Apart w.heap.size X Im' β' M' S' ∧ Rv w' Im' β' M' d v' ∧ G d M' S' := by
    intro hr
    refine ⟨hg.defers, ?_⟩
    obtain ⟨ds', vs', h1, h2, h3⟩ := res_sound hg _ _ hr
    have hrun : (results fn a'.tmps).run P w' = .ok (if h : vs'.toArray.size = 1 then vs'.toArray[0] else .tuple vs'.toArray) w' := by
      rw [results_eq, Array.mapM_eq_mapM_toList]
      simp only [Sem.run_bind, Sem.run_map, Sem.run_pure]
      rw [h1]
      simp
    have hv : Rv w' Im' β' M' (packD ds') (if h : vs'.toArray.size = 1 then vs'.toArray[0] else .tuple vs'.toArray) := by
      have hl := RvL_length _ _ h2
      match ds', vs', h2, hl with
      | [d], [v], h2, _ =>
        simp only [RvL] at h2
        obtain ⟨u, t, e1, e2, e3⟩ := h2
        cases e1
        simpa [packD] using e2
      | [], [], h2, _ => simp only [packD, Rv]; exact ⟨[], by simp, by simp [RvL]⟩
      | d :: d' :: ds, v :: v' :: vs, h2, _ => simp only [packD, Rv]; exact ⟨v :: v' :: vs, by simp, h2⟩
    exact ⟨_, hrun, _, σ', M', S', Im', β', a', packD ds', rfl, hg, hs, ha, hv, h3⟩
  cases x with
  | exit id => simp [FinF] at hq
  | normal => simp only [ExOk] at hx; subst hx; simp only [bodyPost]; exact main hq
  | ret => simp only [ExOk] at hx; subst hx; simp only [bodyPost]; exact main hq

theorem body_mk {m : Nat} {c : Code} {Q : Ex → Slots → Tab → Side → Prop} {ds : List D} {S : Side} (h : TrF P m c Q (mk (args 0 ds)) M S) : TrF P m c Q (fun i => ds.getD i .nov) M S := by
  refine TrF.weak (imp_any (σ' := fun i => ds.getD i .any) fun i => ?_) ?_
  · by_cases hi : i < ds.length <;> simp [List.getD, hi]
  · rw [init_mk]; exact h

theorem init_closed {m : Nat} {ds : List D} {vs : List Value} (hn : ds.length ≤ m) (him : ∀ b, Im b → b < w.heap.size) (hvs : RcL w Im ds vs) :
    StF w.heap.size X0 Im w m (fun i => ds.getD i .nov) (mkT []) [] { tmps := vs.toArray ++ Array.replicate (m - vs.toArray.size) undef, defers := [] } w := by
  have hv := RvL_of_RcL (β := fun _ => gNil) (M := mkT []) _ _ hvs
  have hlen := RvL_length _ _ hv
  refine ⟨Im, fun _ => gNil, { defers := rfl, size := ?_, slots := init_slots hv hn, hi := ?_, im := him, tab := by simp [mkT], own := by simp [mkT], inj := by simp [mkT], base := Nat.le_refl _, fr := Fr.refl _ _ _, imo := fun b hb => .inl hb, pin := fun _ _ hh => (by cases hh), small := .inr fun _ => rfl }, ⟨by simp, by simp, by simp⟩, ⟨?_, ?_, by simp [mkT]⟩⟩
  · simp [hlen]; omega
  · intro i hi; left; simp [List.getD, show ds.length ≤ i by omega]
  · rintro b ⟨g, hg, _⟩; simp at hg
  · rintro b ⟨g, hg, _⟩; simp at hg

theorem ncall_mk {f : FuncId} {fn : Func} {c : Code} {ds : List D} {rl : List ResultVar} {R : List (List D) → Side → Prop} (hf : P.funcs[f]? = some fn) (hb : fn.body = some c) (hn : fn.ntmps = n) (hr : fn.results = rl.toArray) (hcal : callable P f = true) (hd : ds.length ≤ n)
    (h : TrF P n c (FinF P rl fun d M S => ∃ id rows, d = .fs id ∧ M id = some (.row rows) ∧ FlatRows rows ∧ R rows S) (mk (args 0 ds)) (mkT []) []) :
    NCall P f ds fun S r => ∃ g rows S0, S = (g, rows) :: S0 ∧ r = .lv g rows.length ∧ R rows S0 := by
  subst hn
  refine ⟨hcal, fun w vs Im him hvs => ?_⟩
  refine (calls_body hf hb (init_closed hd him hvs) (G := fun d M S => ∃ id rows, d = .fs id ∧ M id = some (.row rows) ∧ FlatRows rows ∧ R rows S) ?_).mono ?_
  · rw [hr]
    exact body_mk h
  rintro e w' ⟨v, σ', M', S', Im', β', a', d, rfl, hg, hs, ha, hv, id, rows, rfl, hM, hfl, hR⟩
  simp only [Rv, hM, Option.bind_some, Ent.len, Option.some.injEq] at hv
  obtain ⟨m, rfl, rfl⟩ := hv
  have hown : ∀ id e, M' id = some e → (β' id).nil = false → w.heap.size ≤ (β' id).blk := fun id e he hn => (hg.own id e he hn).resolve_right fun h => h
  refine ⟨_, (β' id, rows) :: S', _, rfl, ⟨β' id, rows, S', rfl, rfl, hR⟩, ⟨hg.fr.os, hg.fr.tape, hg.fr.output, hg.fr.size, fun k hk => hg.fr.block k hk fun h => h⟩, by simp [Rc], ⟨?_, ?_, ?_⟩, ?_⟩
  · intro p hp
    rcases List.mem_cons.1 hp with rfl | hp
    · exact SE.of (hg.tab id _ hM) hfl
    · exact hs.ent p hp
  · intro p hp
    rcases List.mem_cons.1 hp with rfl | hp
    · exact hfl
    · exact hs.fl p hp
  · simp only [List.map_cons, List.pairwise_cons]
    refine ⟨?_, hs.dis⟩
    intro x hx hn hnx he
    exact ha.tab id _ hM hn ⟨x, hx, hnx, he⟩
  · rintro b ⟨x, hx, hn, rfl⟩
    simp only [List.map_cons, List.mem_cons] at hx
    rcases hx with rfl | hx
    · exact hown id _ hM hn
    · exact (ha.own x.blk ⟨x, hx, hn, rfl⟩).resolve_right fun h => h

theorem acallF_mk {f : FuncId} {fn : Func} {c : Code} {ds : List D} {r : D} {rl : List ResultVar} (hf : P.funcs[f]? = some fn) (hb : fn.body = some c) (hn : fn.ntmps = n) (hr : fn.results = rl.toArray) (hcal : callable P f = true) (hd : ds.length ≤ n) (hsc : scal r = true)
    (h : TrF P n c (FinF P rl fun d _ _ => d = r) (mk (args 0 ds)) (mkT []) []) : ACall P f ds r [] := by
  subst hn
  refine ⟨hcal, fun w vs Im him hvs => ?_⟩
  refine (calls_body hf hb (init_closed hd him hvs) (G := fun d _ _ => d = r) ?_).mono ?_
  · rw [hr]
    exact body_mk h
  rintro e w' ⟨v, σ', M', S', Im', β', a', d, rfl, hg, hs, ha, hv, rfl⟩
  refine ⟨v, rfl, ⟨hg.fr.os, hg.fr.tape, hg.fr.output, hg.fr.size, fun k hk => hg.fr.block k hk fun h => h⟩, Im, fun _ => gNil, fun b hb => .inl hb, fun b hb => Nat.lt_of_lt_of_le (him b hb) hg.fr.size, ?_, by simp, by simp⟩
  cases d <;> simp [scal] at hsc <;> simpa [Rv, Rc] using hv

theorem scall_mk {f : FuncId} {fn : Func} {c : Code} {ds : List D} {rl : List ResultVar} {g : RowG} {rows rows' : List (List D)} {S1 S2 : Side} {r : D} (hf : P.funcs[f]? = some fn) (hb : fn.body = some c) (hn : fn.ntmps = n) (hr : fn.results = rl.toArray) (hcal : callable P f = true) (hd : (.fs 900 :: ds : List D).length ≤ n) (h9 : n ≤ 900)
    (hsc : scal r = true) (hds : cloL ds = true) (hfl : FlatRows rows') (hfst : S2.map Prod.fst = S1.map Prod.fst)
    (h : TrF P n c (FinF P rl fun d M S => d = r ∧ M 900 = some (.row rows') ∧ S = S2) (mk (args 0 (.fs 900 :: ds))) (mkT [(900, .row rows)]) S1) :
    SCall P f (.lv g rows.length :: ds) ((g, rows) :: S1) r ((g, rows') :: S2) := by
  subst hn
  refine ⟨⟨hcal, hsc, by simp [hfst]⟩, fun w vs hs hvs => ?_⟩
  let X : Xs := ⟨inS ((g, rows) :: S1), fun id => if id = 900 then some g else none, fun id hid => by rw [if_neg (by omega)]⟩
  have hrow := (hs.ent (g, rows) (by simp)).ent (hs.fl (g, rows) (by simp)) (Im := fun _ => False) (β := fun _ => g) (M := mkT [(900, .row rows)]) (fun _ h => h)
  have hv : RvL w (fun _ => False) (fun _ => g) (mkT [(900, .row rows)]) (.fs 900 :: ds) vs := by
    simp only [RcL, RvL] at hvs ⊢
    obtain ⟨v, rest, rfl, h1, h2⟩ := hvs
    refine ⟨v, rest, rfl, ?_, RvL_of_RcL _ _ h2⟩
    simp only [Rc] at h1
    simp only [Rv, mkT, if_true, Option.bind_some, Ent.len]
    exact ⟨_, rfl, h1⟩
  have hlen := RvL_length _ _ hv
  have hget : ∀ id e, mkT [(900, .row rows)] id = some e → id = 900 ∧ e = .row rows := by
    intro id e he
    simp only [mkT] at he
    split at he
    · rename_i h; exact ⟨h, (Option.some.inj he).symm⟩
    · cases he
  have hd0 := hs.dis
  simp only [List.map_cons, List.pairwise_cons] at hd0
  have hst : StF w.heap.size X (fun _ => False) w fn.ntmps (fun i => (.fs 900 :: ds : List D).getD i .nov) (mkT [(900, .row rows)]) S1 { tmps := vs.toArray ++ Array.replicate (fn.ntmps - vs.toArray.size) undef, defers := [] } w := by
    refine ⟨fun _ => False, fun _ => g, { defers := rfl, size := ?_, slots := init_slots hv hd, hi := ?_, im := fun _ h => h.elim, tab := ?_, own := ?_, inj := ?_, base := Nat.le_refl _, fr := Fr.refl _ _ _, imo := fun _ h => h.elim, pin := ?_, small := .inl h9 }, ⟨fun p hp => hs.ent p (by simp [hp]), fun p hp => hs.fl p (by simp [hp]), hd0.2⟩, ⟨fun _ _ h => h, ?_, ?_⟩⟩
    · simp only [List.size_toArray, Array.size_append, Array.size_replicate]; omega
    · intro i hi; left
      have : (.fs 900 :: ds : List D).length ≤ i := Nat.le_trans hd hi
      simp only [List.getD, List.getElem?_eq_none this, Option.getD_none]
    · intro id e he; obtain ⟨rfl, rfl⟩ := hget id e he; exact hrow
    · intro id e he hn; exact .inr ⟨g, by simp, hn, rfl⟩
    · intro id id' hi hi' _ _ _
      obtain ⟨e, he⟩ := Option.isSome_iff_exists.1 hi
      obtain ⟨e', he'⟩ := Option.isSome_iff_exists.1 hi'
      rw [(hget id e he).1, (hget id' e' he').1]
    · intro id g' hg'
      simp only [X] at hg'
      split at hg'
      · exact Option.some.inj hg'
      · cases hg'
    · rintro b ⟨x, hx, hn, rfl⟩
      exact .inr ⟨x, by simp only [List.map_cons, List.mem_cons]; exact .inr hx, hn, rfl⟩
    · rintro id e he hn ⟨x, hx, hnx, hbx⟩
      exact hd0.1 x hx hn hnx hbx
  refine (calls_body hf hb hst (G := fun d M S => d = r ∧ M 900 = some (.row rows') ∧ S = S2) ?_).mono ?_
  · rw [hr]
    exact body_mk h
  rintro e w' ⟨v, σ', M', S', Im', β', a', d, rfl, hg, hs', ha, hv', rfl, hM, rfl⟩
  have hpin : β' 900 = g := hg.pin 900 g (by simp [X])
  have h900 := hg.tab 900 _ hM
  rw [hpin] at h900
  refine ⟨v, rfl, ?_, hg.fr, ⟨?_, ?_, ?_⟩⟩
  · cases d <;> simp [scal] at hsc <;> simpa [Rv, Rc] using hv'
  · intro p hp
    rcases List.mem_cons.1 hp with rfl | hp
    · exact SE.of h900 hfl
    · exact hs'.ent p hp
  · intro p hp
    rcases List.mem_cons.1 hp with rfl | hp
    · exact hfl
    · exact hs'.fl p hp
  · simp only [List.map_cons, List.pairwise_cons, hfst]
    exact hd0
end
theorem NCall.mono {P : Program} {f : FuncId} {cs : List D} {R R' : Side → D → Prop} (h : NCall P f cs R) (hr : ∀ S r, R S r → R' S r) : NCall P f cs R' := by
  refine ⟨h.1, fun w vs Im h1 h2 => (h.2 w vs Im h1 h2).mono ?_⟩
  rintro e w' ⟨v, S', r, h3, h4, h5⟩
  exact ⟨v, S', r, h3, hr _ _ h4, h5⟩
theorem OpnL.cons {S : Side} {d c : D} {ds cs : List D} (h : Opn S d c) (h' : OpnL S ds cs) : OpnL S (d :: ds) (c :: cs) := ⟨h, h'⟩
section
variable {P : Program} {n : Nat} {Q : Ex → Slots → Tab → Side → Prop} {σ : Slots} {M : Tab} {S : Side}
theorem f_regionK {id : Nat} {l : List Oper} (k : Nat) {o : Oper} {l2 : List Oper} (hk : l.drop k = o :: l2)
    (h : ∀ KT : Slots → Tab → Prop, (∀ σ' M', (gOk l.toArray σ' o.guard ∧ Sp P n o σ' M' S fun σ2 M2 S2 => ∀ KT : Slots → Tab → Prop, (∀ σ3 M3, Q .normal σ3 M3 S2 → KT σ3 M3) → aOps P n l.toArray l2 σ2 M2 KT) → KT σ' M') → aOps P n l.toArray (l.take k) σ M KT) :
    TrF P n (.region id l.toArray false) Q σ M S := by
  refine f_region (l.take k) o l2 (by rw [← hk]; simp) ?_
  refine h _ ?_
  rintro σ' M' ⟨h1, h2⟩
  refine ⟨h1, ?_⟩
  intro B0 X I0 w0 a w hs K' Q' hK
  exact h2 B0 X I0 w0 a w hs K' Q' fun σ2 M2 S2 a2 w2 hs2 hk2 => hK σ2 M2 S2 a2 w2 hs2 (hk2 _ fun _ _ h => h)
theorem f_blk {id : Nat} (h : Q .normal σ M S) : InBlkF id Q .normal σ M S := h
theorem f_blkX {id : Nat} (h : Q .normal σ M S) : InBlkF id Q (.exit id) σ M S := by simpa [InBlkF] using h
theorem f_thenX {d : Code} {i : Nat} (h : Q (.exit i) σ M S) : ThenF P n d Q (.exit i) σ M S := h
theorem f_rndX {α : Type} {SL : α → List (Nat × D)} {T : α → List (Nat × Ent)} {V : α → Side} {I : α → Prop} {μ : α → Nat} {k i : Nat} (h : Q (.exit i) σ M S) : RndF n Q SL T V I μ k (.exit i) σ M S := h
theorem f_condT {c : Operand} {x y : Code} (hc : ev σ c = .bool true) (h : TrF P n x Q σ M S) : TrF P n (.cond c x y) Q σ M S := by
  rintro B0 X I0 w0 a w ⟨Im, β, hg, hs, ha⟩
  have := hg.ev c
  rw [hc] at this
  simp only [Rv, Rc] at this
  exact wp_cond_split this (fun _ => h B0 X I0 w0 a w ⟨Im, β, hg, hs, ha⟩) (fun hb => by cases hb)
theorem fin_f {rl : List ResultVar} {G : D → Tab → Side → Prop} (h : resQ P σ M rl fun ds => G (packD ds) M S) : FinF P rl G .ret σ M S := h
end
end Go.Proofs.Ytmiclkgkfkcnoaa

/- Regions that draw their order, walked along each order; the ends of functions with rows beside the state. -/
namespace Go.Proofs.Ytmiclkgkfkcnoaa
open Go.RowKit
set_option linter.unusedVariables false

section
variable {P : Program} {n : Nat} {σ : Slots} {M : Tab} {S : Side} {ops : Array Oper}
def opF (P : Program) (n : Nat) (ops : Array Oper) (i : Nat) (σ : Slots) (M : Tab) (S : Side) (K : Slots → Tab → Side → Prop) : Prop :=
  ∃ o, ops[i]? = some o ∧ o.guard = none ∧ ((∀ KT : Slots → Tab → Prop, (∀ σ' M', K σ' M' S → KT σ' M') → aOps P n ops [o] σ M KT) ∨ Sp P n o σ M S K)
def anyF (P : Program) (n : Nat) (ops : Array Oper) (Q : Slots → Tab → Side → Prop) : Nat → Array Bool → Slots → Tab → Side → Prop
  | 0, listed, σ, M, S => Region.ready .any ops listed = [] ∧ Q σ M S
  | fuel + 1, listed, σ, M, S => (Region.ready .any ops listed = [] → Q σ M S) ∧ ∀ i ∈ Region.ready .any ops listed, opF P n ops i σ M S (anyF P n ops Q fuel (listed.setIfInBounds i true))

theorem opF_m {i : Nat} {o : Oper} {K : Slots → Tab → Side → Prop} (ho : ops[i]? = some o) (hg : o.guard = none) (h : ∀ KT : Slots → Tab → Prop, (∀ σ' M', K σ' M' S → KT σ' M') → aOps P n ops [o] σ M KT) : opF P n ops i σ M S K := ⟨o, ho, hg, .inl h⟩
theorem opF_s {i : Nat} {o : Oper} {K : Slots → Tab → Side → Prop} (ho : ops[i]? = some o) (hg : o.guard = none) (h : Sp P n o σ M S K) : opF P n ops i σ M S K := ⟨o, ho, hg, .inr h⟩
theorem anyF_step {Q : Slots → Tab → Side → Prop} {fuel : Nat} {listed : Array Bool} {r : List Nat} (hr : Region.ready .any ops listed = r) (h0 : r ≠ []) (h : ∀ i ∈ r, opF P n ops i σ M S (anyF P n ops Q fuel (listed.setIfInBounds i true))) : anyF P n ops Q (fuel + 1) listed σ M S := by
  subst hr
  exact ⟨fun h1 => absurd h1 h0, h⟩
theorem anyF_end {Q : Slots → Tab → Side → Prop} {fuel : Nat} {listed : Array Bool} (hr : Region.ready .any ops listed = []) (h : Q σ M S) : anyF P n ops Q fuel listed σ M S := by
  cases fuel with
  | zero => exact ⟨hr, h⟩
  | succ f => exact ⟨fun _ => h, fun i hi => by rw [hr] at hi; cases hi⟩
theorem all_nil {F : Nat → Prop} : ∀ i ∈ ([] : List Nat), F i := fun i hi => by cases hi
theorem all_cons {F : Nat → Prop} {a : Nat} {l : List Nat} (h : F a) (h' : ∀ i ∈ l, F i) : ∀ i ∈ a :: l, F i := fun i hi => by
  rcases List.mem_cons.1 hi with rfl | hi
  · exact h
  · exact h' i hi

theorem opF_sound {B0 : Nat} {X : Xs} {I0 : Nat → Prop} {w0 : World} {i : Nat} {a : Act} {w : World} {K : Slots → Tab → Side → Prop} {K' : Act → World → Prop} {R : Exit → Act → World → Prop} (hs : StF B0 X I0 w0 n σ M S a w)
    (hk : ∀ σ M S a w, StF B0 X I0 w0 n σ M S a w → K σ M S → K' a w) (h : opF P n ops i σ M S K) : wpOp P ops R i K' a w := by
  obtain ⟨o, ho, hg, h⟩ := h
  unfold wpOp
  rw [ho]
  simp only
  rw [if_pos (by simp [Region.wanted, hg])]
  left
  rcases h with h | h
  · obtain ⟨Im, β, hst, hs1, ha1⟩ := hs
    obtain ⟨X1, ⟨Im1, β1, h1⟩, h2⟩ := hst.frameS hs1 ha1
    have h3 := h _ (fun _ _ h => h)
    simp only [aOps, guardQ, hg] at h3
    exact stp_sound h1 h3 K' R fun σ' M' a' w' h4 h5 => hk _ _ _ _ _ (h2 _ _ _ _ h4) h5
  · exact h B0 X I0 w0 a w hs K' R fun σ' M' S' a' w' h4 h5 => hk _ _ _ _ _ h4 h5
theorem anyF_sound {B0 : Nat} {X : Xs} {I0 : Nat → Prop} {w0 : World} {Q : Slots → Tab → Side → Prop} {R : Exit → Act → World → Prop} (hQ : ∀ σ M S a w, StF B0 X I0 w0 n σ M S a w → Q σ M S → R .normal a w) :
    ∀ (fuel : Nat) (listed : Array Bool) (σ : Slots) (M : Tab) (S : Side) (a : Act) (w : World), StF B0 X I0 w0 n σ M S a w → anyF P n ops Q fuel listed σ M S → wpAny P .any ops R fuel listed a w
  | 0, _, _, _, _, _, _, hs, h => ⟨h.1, hQ _ _ _ _ _ hs h.2⟩
  | fuel + 1, _, _, _, _, _, _, hs, h => ⟨fun h0 => hQ _ _ _ _ _ hs (h.1 h0), fun i hi => opF_sound hs (fun σ' M' S' a' w' h1 h2 => anyF_sound hQ fuel _ σ' M' S' a' w' h1 h2) (h.2 i hi)⟩
theorem f_any {id : Nat} {l : List Oper} {Q : Ex → Slots → Tab → Side → Prop} (hm : P.follows .mixedOrders = true) (h : anyF P n l.toArray (fun σ M S => Q .normal σ M S) l.length (Array.replicate l.length false) σ M S) : TrF P n (.region id l.toArray true) Q σ M S := by
  rintro B0 X I0 w0 a w ⟨Im, β, hg, hs, ha⟩
  refine wp_region_any hm ?_
  have hs' : StF B0 X I0 w0 n σ M S a { w with drawn := w.drawn + 1 } := ⟨Im, β, hg.drew, hs.move fun _ _ => rfl, ha⟩
  have := anyF_sound (R := fun e a' w' => ∃ x σ' M' S', StF B0 X I0 w0 n σ' M' S' a' w' ∧ Q x σ' M' S' ∧ ExOk x e) (fun σ M S a w h1 h2 => ⟨.normal, σ, M, S, h1, h2, rfl⟩) l.length _ σ M S a _ hs' h
  simpa using this

theorem ff {rl : List ResultVar} {G : D → Tab → Side → Prop} {R : Prop} (h : R) (e : (resQ P σ M rl fun ds => G (packD ds) M S) = R := by simp only [resQ, packD, callQ, viewL, view, noFsL, noFs, intsOf, Option.map_some, stp, hv, qv, ev, cD, scr, scrL, Ent.scr, flat, one, binQ, ldQ, storeQ, lay, Nat.reduceLT, Nat.reduceLeDiff, Nat.reduceAdd, Nat.reduceEqDiff, Nat.reduceMul, Nat.reduceSub, reduceIte, reduceCtorEq, fillQ, bne_iff_ne, Nat.reduceBNe, Nat.reduceBEq, rowsOf, cloL, clo, exists_eq_left', exists_and_left, appendQ, partsQ, Int.cast_ofNat_Int, Int.reduceBEq, Int.reduceBNe, Int.reduceLT, Int.reduceLE, Int.reduceEq, Int.reduceNe, Int.reduceAdd, Int.reduceSub, Int.reduceNeg, Int.reduceToNat, decide_true, decide_false, ne_eq, not_false_eq_true, true_and, and_true, Nat.add_zero, Nat.zero_add, Nat.not_lt_zero, Bool.not_true, Bool.not_false, Int.le_refl, bA, bB, bT, gx]; rfl) : FinF P rl G .ret σ M S := by
  rw [← e] at h; exact h

def GAgg (R : Side → D → Prop) (d : D) (M : Tab) (S : Side) : Prop := ∃ ds, d = .agg ds ∧ (∀ x ∈ ds, scal x = true) ∧ R S (.agg ds)
theorem RvL_scal3 {w : World} {Im Im' : Nat → Prop} {β : Nat → RowG} {M : Nat → Option Ent} : ∀ (ds : List D) (vs : List Value), (∀ d ∈ ds, scal d = true) → RvL w Im β M ds vs → RcL w Im' ds vs
  | [], _, _, hv => by simpa [RcL, RvL] using hv
  | d :: ds, vs, hn, hv => by
    simp only [RcL, RvL] at hv ⊢
    obtain ⟨v, r, rfl, h1, h2⟩ := hv
    refine ⟨v, r, rfl, ?_, RvL_scal3 ds r (fun x hx => hn x (by simp [hx])) h2⟩
    have := hn d (by simp)
    cases d <;> simp [scal] at this <;> simpa [Rc, Rv] using h1
theorem ncallA_mk {f : FuncId} {fn : Func} {c : Code} {ds : List D} {rl : List ResultVar} {R : Side → D → Prop} (hf : P.funcs[f]? = some fn) (hb : fn.body = some c) (hn : fn.ntmps = n) (hr : fn.results = rl.toArray) (hcal : callable P f = true) (hd : ds.length ≤ n)
    (h : TrF P n c (FinF P rl (GAgg R)) (mk (args 0 ds)) (mkT []) []) : NCall P f ds R := by
  subst hn
  refine ⟨hcal, fun w vs Im him hvs => ?_⟩
  refine (calls_body hf hb (init_closed hd him hvs) (G := GAgg R) ?_).mono ?_
  · rw [hr]
    exact body_mk h
  rintro e w' ⟨v, σ', M', S', Im', β', a', d, rfl, hg, hs, ha, hv, ds', rfl, hsc, hR⟩
  refine ⟨v, S', _, rfl, hR, ⟨hg.fr.os, hg.fr.tape, hg.fr.output, hg.fr.size, fun k hk => hg.fr.block k hk fun h => h⟩, ?_, hs, fun b hb => (ha.own b hb).resolve_right fun h => h⟩
  simp only [Rv, Rc] at hv ⊢
  obtain ⟨x, rfl, hv⟩ := hv
  exact ⟨x, rfl, RvL_scal3 ds' _ hsc hv⟩
end
end Go.Proofs.Ytmiclkgkfkcnoaa
