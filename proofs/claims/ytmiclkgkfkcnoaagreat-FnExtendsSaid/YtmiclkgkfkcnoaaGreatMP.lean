/- The evaluator: short words for its steps, calls that hand variables over. -/
import Derived.Test.YtmiclkgkfkcnoaaGreatMN
/- Short words for the steps of the proofs: what a step asks is proved by itself. -/
namespace Go.Proofs.YtmiclkgkfkcnoaaGreat
open Go.RowKit
set_option linter.unusedVariables false
class Go1 (A : Prop) (B : outParam Prop) : Prop where
  h : B → A
class Go2 (A : Prop) (B C : outParam Prop) : Prop where
  h : B → C → A
theorem go {A B : Prop} [i : Go1 A B] (b : B) : A := i.h b
theorem go2 {A B C : Prop} [i : Go2 A B C] (b : B) (c : C) : A := i.h b c
theorem takeL_all : ∀ {α : Type} (l : List α), l.take l.length = l := fun _ => List.take_length
theorem dropL_zero : ∀ {α : Type} (l : List α), l.drop 0 = l := fun l => List.drop_zero
theorem beqI_self : ∀ (a : Int), (a == a) = true := fun a => beq_self_eq_true a
theorem lenL_app : ∀ {α : Type} (l m : List α), (l ++ m).length = l.length + m.length := fun l m => List.length_append
theorem fx (b : Bool) : (true && b) = b := Bool.true_and b
section
variable {P : Program} {n : Nat} {σ : Slots} {M : Tab} {Q : Ex → Slots → Tab → Prop}
instance {c d : Code} : Go1 (Tr P n (.seq c d) Q σ M) (Tr P n c (Then P n d Q) σ M) := ⟨t_seq⟩
instance {id : Nat} {c : Code} : Go1 (Tr P n (.block id c) Q σ M) (Tr P n c (InBlk id Q) σ M) := ⟨t_block⟩
instance : Go1 (Tr P n .skip Q σ M) (Q .normal σ M) := ⟨Tr.skip⟩
instance : Go1 (Tr P n .ret Q σ M) (Q .ret σ M) := ⟨Tr.ret⟩
instance {id : Nat} : Go1 (Tr P n (.exit id) Q σ M) (Q (.exit id) σ M) := ⟨Tr.exit⟩
instance {d : Code} : Go1 (Then P n d Q .normal σ M) (Tr P n d Q σ M) := ⟨k_seq⟩
instance {d : Code} : Go1 (Then P n d Q .ret σ M) (Q .ret σ M) := ⟨k_seqR⟩
instance {d : Code} {i : Nat} : Go1 (Then P n d Q (.exit i) σ M) (Q (.exit i) σ M) := ⟨k_seqX⟩
instance {id : Nat} : Go1 (InBlk id Q .normal σ M) (Q .normal σ M) := ⟨k_blk⟩
instance {id : Nat} : Go1 (InBlk id Q .ret σ M) (Q .ret σ M) := ⟨k_blkR⟩
instance {id : Nat} : Go1 (InBlk id Q (.exit id) σ M) (Q .normal σ M) := ⟨k_blkX⟩
section
variable {α : Type} {S : α → List (Nat × D)} {T : α → List (Nat × Ent)} {I : α → Prop} {μ : α → Nat} {k : Nat}
instance {i : Nat} : Go1 (Rnd n Q S T I μ k (.exit i) σ M) (Q (.exit i) σ M) := ⟨k_rndX⟩
instance : Go1 (Rnd n Q S T I μ k .ret σ M) (Q .ret σ M) := ⟨k_rndR⟩
end
instance {A B : Prop} : Go1 (grdQ (.bool true) true A B) A := ⟨g_yT⟩
instance {A B : Prop} : Go1 (grdQ (.bool false) true A B) B := ⟨g_nF⟩
instance {A B : Prop} : Go1 (grdQ (.bool false) false A B) A := ⟨g_yF⟩
instance {A B : Prop} : Go1 (grdQ (.bool true) false A B) B := ⟨g_nT⟩
instance {A B : Prop} {b : Bool} : Go1 (grdQ .nov b A B) B := ⟨g_nov⟩
instance {A B : Prop} : Go1 (condQ (.bool true) A B) A := ⟨c_T⟩
instance {A B : Prop} : Go1 (condQ (.bool false) A B) B := ⟨c_F⟩
instance {A B : Prop} {b : Bool} : Go2 (grdQ (.bool b) true A B) (b = true → A) (b = false → B) := ⟨g_sT⟩
instance {A B : Prop} {b : Bool} : Go2 (grdQ (.bool b) false A B) (b = false → A) (b = true → B) := ⟨g_sF⟩
instance {A B : Prop} {b : Bool} : Go2 (condQ (.bool b) A B) (b = true → A) (b = false → B) := ⟨c_s⟩
theorem bY {id i : Nat} (h : Q (.exit i) σ M) (hi : (i == id) = false := by decide) : InBlk id Q (.exit i) σ M := k_blkY hi h
theorem skS {d : Nat} {K : Slots → Prop} (hk : K (upd σ d .nov)) (h : d < n := by decide) : skipQ n (some d) σ K := skip_some h hk
theorem tdr {id : Nat} {l : List Oper} (h : ∀ K : Slots → Prop, (∀ σ, Q .normal σ M → K σ) → hOps P n M l.toArray l σ K) (hm : P.follows .mixedOrders = true := by kernel_rfl) (hB : Region.lexB .any l.toArray = true := by kernel_rfl) : Tr P n (.region id l.toArray true) Q σ M := t_draw hm hB h
theorem tdT {l : List Oper} (id m : Nat) (h : ∀ K : Slots → Tab → Prop, (∀ σ M, Q .normal σ M → K σ M) → hOps P n M l.toArray (l.take m) σ fun σ' => aOps P n l.toArray (dropQ false m l) σ' M K)
    (hm : P.follows .mixedOrders = true := by kernel_rfl) (hB : tailB l.toArray m = true := by kernel_rfl) : Tr P n (.region id l.toArray true) Q σ M := t_drawTail m hm hB h
/-! operations -/
class Gp (A : Prop) (κ : outParam Type) (H B : outParam (κ → Prop)) (S : outParam Prop) : Prop where
  h : S → (∀ K, H K → B K) → A
theorem gp {A : Prop} {κ : Type} {H B R : κ → Prop} {S : Prop} [i : Gp A κ H B S] (h : ∀ K, H K → R K) (e : ∀ K, R K → B K := by intro KK r; simp only [stp, hv, qv, ev, cD, scr, scrL, Ent.scr, flat, one, binQ, ldQ, storeQ, lay, Nat.reduceLT, Nat.reduceLeDiff, Nat.reduceAdd, Nat.reduceEqDiff, Nat.reduceMul, Nat.reduceSub, reduceIte, reduceCtorEq, fillQ, bne_iff_ne, Nat.reduceBNe, Nat.reduceBEq, rowsOf, cloL, clo, exists_eq_left', exists_and_left, appendQ, partsQ, Int.cast_ofNat_Int, Int.reduceBEq, Int.reduceBNe, Int.reduceLT, Int.reduceLE, Int.reduceEq, Int.reduceNe, Int.reduceAdd, Int.reduceSub, Int.reduceNeg, Int.reduceToNat, decide_true, decide_false, ne_eq, not_false_eq_true, true_and, and_true, Nat.add_zero, Nat.zero_add, Nat.not_lt_zero, Bool.not_true, Bool.not_false, Int.le_refl, bA, bB, callQ, viewL, view, noFsL, noFs, intsOf, Option.map_some, bT, gx, fx]; exact r)
    (s : S := by first | trivial | decide | exact ⟨by decide, rfl⟩ | exact ⟨.inl rfl, by decide, rfl⟩ | exact ⟨.inr ⟨rfl, rfl⟩, by decide, rfl⟩) : A := i.h s fun K hk => e K (h K hk)
class Gd (A : Prop) (ops : outParam (Array Oper)) (σ : outParam Slots) (j : outParam Nat) (w : outParam Bool) (X Y : outParam Prop) : Prop where
  h : ∀ d, (ops[j]?).bind (·.dst) = some d → (∀ A B : Prop, (X → A) → (Y → B) → grdQ (σ d) w A B) → A
theorem gd {A : Prop} {ops : Array Oper} {σ : Slots} {j : Nat} {w : Bool} {X Y : Prop} {R : Prop → Prop → Prop} {d : Nat} [i : Gd A ops σ j w X Y] (h : ∀ A B : Prop, (X → A) → (Y → B) → R A B) (hd : (ops[j]?).bind (·.dst) = some d := by rfl)
    (e : ∀ A B, R A B → grdQ (σ d) w A B := by intro A B r; simp only [bA, ev, cD, Nat.reduceEqDiff, reduceIte, fx]; exact r) : A := i.h d hd fun A B hA hB => e A B (h A B hA hB)
class Gc (A : Prop) (σ : outParam Slots) (c : outParam Operand) (X Y : outParam Prop) : Prop where
  h : (∀ A B : Prop, (X → A) → (Y → B) → condQ (ev σ c) A B) → A
theorem tc {A : Prop} {σ : Slots} {c : Operand} {X Y : Prop} {R : Prop → Prop → Prop} [i : Gc A σ c X Y] (h : ∀ A B : Prop, (X → A) → (Y → B) → R A B)
    (e : ∀ A B, R A B → condQ (ev σ c) A B := by intro A B r; simp only [bA, ev, cD, Nat.reduceEqDiff, reduceIte, fx]; exact r) : A := i.h fun A B hA hB => e A B (h A B hA hB)
section
variable {ops : Array Oper} {dst : Option Tmp} {t : Nat} {op : Op} {type : TypeId} {pos : String} {after : Array Edge} {rest : List Oper} {KS : Slots → Prop}
instance {K : Slots → Tab → Prop} : Gp (aOps P n ops (⟨dst, op, type, pos, after, none⟩ :: rest) σ M K) (Slots → Tab → Prop) (fun K' => ∀ σ M, aOps P n ops rest σ M K → K' σ M) (fun K' => stp P n dst op σ M K') True := ⟨fun _ h => o_plain h⟩
instance : Gp (hOps P n M ops (⟨some t, op, type, pos, after, none⟩ :: rest) σ KS) (D → Prop) (fun K' => ∀ d, hOps P n M ops rest (upd σ t d) KS → K' d) (fun K' => hv P M (ev σ) K' op) (t < n) := ⟨fun hd h => h_plain hd h⟩
instance : Gp (hOps P n M ops (⟨none, op, type, pos, after, none⟩ :: rest) σ KS) (D → Prop) (fun K' => ∀ d, hOps P n M ops rest σ KS → K' d) (fun K' => hv P M (ev σ) K' op) True := ⟨fun _ h => h_none h⟩
instance {m : Nat} : Gp (hOps P n M ops (List.take (m + 1) (⟨some t, op, type, pos, after, none⟩ :: rest)) σ KS) (D → Prop) (fun K' => ∀ d, hOps P n M ops (List.take m rest) (upd σ t d) KS → K' d) (fun K' => hv P M (ev σ) K' op) (t < n) := ⟨fun hd h => ht_plain hd h⟩
instance {y : List (Nat × Ent)} {K : Slots × Prv → Prop} : Gp (gOps (machX P n M ops) (⟨some t, op, type, pos, after, none⟩ :: rest) (σ, mkT y) K) (D → Prop) (fun K' => ∀ d, gOps (machX P n M ops) rest (upd σ t d, mkT y) K → K' d) (fun K' => hv P M (ev σ) K' op) (t < n ∧ mkT y t = none) := ⟨fun s h => x_plain s.1 s.2 h⟩
instance {c : Nat} {y : List (Nat × Ent)} {K : Slots × Prv → Prop} : Gp (gOps (machX P n M ops) (List.take (c + 1) (⟨some t, op, type, pos, after, none⟩ :: rest)) (σ, mkT y) K) (D → Prop) (fun K' => ∀ d, gOps (machX P n M ops) (List.take c rest) (upd σ t d, mkT y) K → K' d) (fun K' => hv P M (ev σ) K' op) (t < n ∧ mkT y t = none) := ⟨fun s h => xt_plain s.1 s.2 h⟩
instance {B A : List Nat} {y : List (Nat × Ent)} {K : SG → Prop} : Gp (kOps (machG P n ops B A) (⟨some t, op, type, pos, after, none⟩ :: rest) (σ, M, mkT y) K) (D → Prop) (fun K' => ∀ d, kOps (machG P n ops B A) rest (upd σ t d, M, mkT y) K → K' d) (fun K' => hv P M (ev σ) K' op)
    ((cls B ⟨some t, op, type, pos, after, none⟩ = 3 ∨ (cls B ⟨some t, op, type, pos, after, none⟩ = 0 ∧ isFree op = true)) ∧ t < n ∧ mkT y t = none) := ⟨fun s h => g_val s.1 s.2.1 s.2.2 h⟩
variable {j : Nat} {want : Bool}
instance {K : Slots → Tab → Prop} : Gd (aOps P n ops (⟨dst, op, type, pos, after, some (j, want)⟩ :: rest) σ M K) ops σ j want (aOps P n ops (⟨dst, op, type, pos, after, none⟩ :: rest) σ M K) (skipQ n dst σ (fun σ' => aOps P n ops rest σ' M K)) := ⟨fun d hd h => o_guard d hd h⟩
instance : Gd (hOps P n M ops (⟨dst, op, type, pos, after, some (j, want)⟩ :: rest) σ KS) ops σ j want (hOps P n M ops (⟨dst, op, type, pos, after, none⟩ :: rest) σ KS) (skipQ n dst σ (fun σ' => hOps P n M ops rest σ' KS)) := ⟨fun d hd h => h_guard d hd h⟩
instance {m : Nat} : Gd (hOps P n M ops (List.take (m + 1) (⟨dst, op, type, pos, after, some (j, want)⟩ :: rest)) σ KS) ops σ j want (hOps P n M ops (List.take (m + 1) (⟨dst, op, type, pos, after, none⟩ :: rest)) σ KS) (skipQ n dst σ (fun σ' => hOps P n M ops (List.take m rest) σ' KS)) := ⟨fun d hd h => ht_guard d hd h⟩
instance {c : Operand} {x y : Code} : Gc (Tr P n (.cond c x y) Q σ M) σ c (Tr P n x Q σ M) (Tr P n y Q σ M) := ⟨fun h => t_cond h⟩
end
class OpK (A : Prop) (k : outParam Nat) : Prop where
  h : True
theorem kd {A : Prop} (k : Nat) [OpK A k] (a : A) : A := a
section
variable {ops : Array Oper} {dst : Option Tmp} {d t : Nat} {type : TypeId} {pos : String} {after : Array Edge} {g : Option (Nat × Bool)} {rest : List Oper}
section
variable {B A : List Nat} {s : SG} {K : SG → Prop}
instance : OpK (kOps (machG P n ops B A) [] s K) 0 := ⟨trivial⟩
instance : OpK (kOps (machG P n ops B A) (⟨some d, .alloc t, type, pos, after, none⟩ :: rest) s K) 1 := ⟨trivial⟩
instance {x y : Operand} : OpK (kOps (machG P n ops B A) (⟨none, .store t x y, type, pos, after, none⟩ :: rest) s K) 2 := ⟨trivial⟩
instance {f : FuncId} {args : Array Operand} {ts : Array TypeId} : OpK (kOps (machG P n ops B A) (⟨some d, .call ⟨.value (.func f), args, ts⟩, type, pos, after, none⟩ :: rest) s K) 3 := ⟨trivial⟩
end
section
variable {s : Slots × Prv} {K : Slots × Prv → Prop} {c : Nat} {o : Oper}
instance : OpK (gOps (machX P n M ops) [] s K) 10 := ⟨trivial⟩
instance {l : List Oper} : OpK (gOps (machX P n M ops) (List.take 0 l) s K) 10 := ⟨trivial⟩
instance : OpK (gOps (machX P n M ops) (⟨some d, .alloc t, type, pos, after, none⟩ :: rest) s K) 11 := ⟨trivial⟩
instance : OpK (gOps (machX P n M ops) (⟨some d, .buildSlice t 0 #[], type, pos, after, none⟩ :: rest) s K) 12 := ⟨trivial⟩
instance {args : Array Operand} {ts : Array TypeId} : OpK (gOps (machX P n M ops) (⟨some d, .call ⟨.builtin .append, args, ts⟩, type, pos, after, none⟩ :: rest) s K) 13 := ⟨trivial⟩
instance {f : FuncId} {args : Array Operand} {ts : Array TypeId} : OpK (gOps (machX P n M ops) (⟨some d, .call ⟨.value (.func f), args, ts⟩, type, pos, after, none⟩ :: rest) s K) 14 := ⟨trivial⟩
end
end
/-! calls -/
theorem nz {A B : Prop} (b : B) (e : B → A := by intro b; simp only [addS, addM, ren, renL, rid, scr, scrL, Ent.scr, Nat.reduceMul, Nat.reduceAdd, Nat.reduceEqDiff, reduceIte, bA]; exact b) : A := e b
theorem csq {p : Prop} (h : p := by first | exact .inl rfl | exact .inl trivial | exact .inr ⟨rfl, fun r hr => by rw [List.mem_singleton.1 hr]; exact flat_map (fun _ => rfl) _⟩ | (simp [FlatRows, noSl, noSlL]; done)) : p := h
/-! the end -/
theorem fe {rl : List ResultVar} {r : D} {R : Prop} (h : R) (e : (resQ P σ M rl fun ds => r = view M (packD ds)) = R := by simp only [resQ, packD, callQ, viewL, view, noFsL, noFs, intsOf, Option.map_some, stp, hv, qv, ev, cD, scr, scrL, Ent.scr, flat, one, binQ, ldQ, storeQ, lay, Nat.reduceLT, Nat.reduceLeDiff, Nat.reduceAdd, Nat.reduceEqDiff, Nat.reduceMul, Nat.reduceSub, reduceIte, reduceCtorEq, fillQ, bne_iff_ne, Nat.reduceBNe, Nat.reduceBEq, rowsOf, cloL, clo, exists_eq_left', exists_and_left, appendQ, partsQ, Int.cast_ofNat_Int, Int.reduceBEq, Int.reduceBNe, Int.reduceLT, Int.reduceLE, Int.reduceEq, Int.reduceNe, Int.reduceAdd, Int.reduceSub, Int.reduceNeg, Int.reduceToNat, decide_true, decide_false, ne_eq, not_false_eq_true, true_and, and_true, Nat.add_zero, Nat.zero_add, Nat.not_lt_zero, Bool.not_true, Bool.not_false, Int.le_refl, bA, bB, bT, gx]; rfl) : Fin P rl r [] .ret σ M := (fin_closed (e.symm ▸ h)).1
theorem fo {rl : List ResultVar} {r : D} {rs : List (List (List D))} {R : Prop} (ids : List Nat) (h : R) (e : (resQ P σ M rl fun ds => OwnRes M ids (packD ds) r rs) = R := by simp only [resQ, packD, OwnRes, callQ, viewL, view, noFsL, noFs, intsOf, Option.map_some, stp, hv, qv, ev, cD, scr, scrL, Ent.scr, flat, one, binQ, ldQ, storeQ, lay, Nat.reduceLT, Nat.reduceLeDiff, Nat.reduceAdd, Nat.reduceEqDiff, Nat.reduceMul, Nat.reduceSub, reduceIte, reduceCtorEq, fillQ, bne_iff_ne, Nat.reduceBNe, Nat.reduceBEq, rowsOf, cloL, clo, exists_eq_left', exists_and_left, appendQ, partsQ, Int.cast_ofNat_Int, Int.reduceBEq, Int.reduceBNe, Int.reduceLT, Int.reduceLE, Int.reduceEq, Int.reduceNe, Int.reduceAdd, Int.reduceSub, Int.reduceNeg, Int.reduceToNat, decide_true, decide_false, ne_eq, not_false_eq_true, true_and, and_true, Nat.add_zero, Nat.zero_add, Nat.not_lt_zero, Bool.not_true, Bool.not_false, Int.le_refl, bA, bB, bT, gx]; rfl) : Fin P rl r rs .ret σ M := (fin_own ids (e.symm ▸ h)).1
end
end Go.Proofs.YtmiclkgkfkcnoaaGreat

/- From the body to the contract, where entries are handed over; such calls in a walk. -/
namespace Go.Proofs.YtmiclkgkfkcnoaaGreat
open Go.RowKit
set_option linter.unusedVariables false
def pinE : Nat → List Ent → List Nat
  | _, [] => []
  | k, .box _ :: r => (900 + k) :: pinE (k + 1) r
  | k, .row _ :: r => (1900 + k) :: pinE (k + 1) r
def boxesOk : Nat → List Ent → List Nat → List Ent → Bool
  | _, [], _, _ => true
  | k, .box _ :: r, id :: ids, .box _ :: es => id == 900 + k && boxesOk (k + 1) r ids es
  | k, .row _ :: r, _ :: ids, _ :: es => boxesOk (k + 1) r ids es
  | _, _, _, _ => false
def idLtEs (n : Nat) : List Ent → Bool
  | [] => true
  | e :: es => idLtE n e && idLtEs n es
theorem idLtEs_mem {n : Nat} : ∀ {es : List Ent}, idLtEs n es = true → ∀ e ∈ es, idLtE n e = true
  | [], _, e, h => by simp at h
  | x :: es, h, e, he => by
    simp only [idLtEs, Bool.and_eq_true] at h
    rcases List.mem_cons.1 he with rfl | he
    · exact h.1
    · exact idLtEs_mem h.2 e he
def FinE {α : Type} (P : Program) (n : Nat) (rl : List ResultVar) (ms : List Ent) (m' : Nat) (I : α → Prop) (r : α → D) (ms' : α → List Ent) : Ex → Slots → Tab → Prop
  | .exit _, _, _ => False
  | _, σ, M => ∃ σ1 M1, Imp n σ M σ1 M1 ∧ resQ P σ1 M1 rl fun ds => ∃ (x : α) (ids : List Nat), I x ∧ packD ds = bk ids (r x) ∧ (ms' x).length = m' ∧ ids.length = m' ∧ idLt m' (r x) = true ∧ idLtEs m' (ms' x) = true ∧ ids.Nodup ∧ ids.map M1 = (bkEs ids (ms' x)).map some ∧ boxesOk 0 ms ids (ms' x) = true
theorem boxesOk_get : ∀ (ms : List Ent) (k0 : Nat) (ids : List Nat) (es : List Ent), boxesOk k0 ms ids es = true → ∀ k cs, ms[k]? = some (.box cs) → ids[k]? = some (900 + (k0 + k)) ∧ ∃ cs', es[k]? = some (.box cs')
  | [], _, _, _, _, k, cs, h => by simp at h
  | .box c :: r, k0, [], es, hb, _, _, _ => by simp [boxesOk] at hb
  | .box c :: r, k0, id :: ids, [], hb, _, _, _ => by simp [boxesOk] at hb
  | .box c :: r, k0, id :: ids, .row _ :: es, hb, _, _, _ => by simp [boxesOk] at hb
  | .box c :: r, k0, id :: ids, .box c' :: es, hb, k, cs, h => by
    simp only [boxesOk, Bool.and_eq_true, beq_iff_eq] at hb
    cases k with
    | zero => exact ⟨by simp [hb.1], c', by simp⟩
    | succ k =>
      have := boxesOk_get r (k0 + 1) ids es hb.2 k cs (by simpa using h)
      exact ⟨by simpa [show 900 + (k0 + 1 + k) = 900 + (k0 + (k + 1)) by omega] using this.1, by simpa using this.2⟩
  | .row c :: r, k0, [], es, hb, _, _, _ => by simp [boxesOk] at hb
  | .row c :: r, k0, id :: ids, [], hb, _, _, _ => by simp [boxesOk] at hb
  | .row c :: r, k0, id :: ids, e :: es, hb, k, cs, h => by
    simp only [boxesOk] at hb
    cases k with
    | zero => simp at h
    | succ k =>
      have := boxesOk_get r (k0 + 1) ids es hb k cs (by simpa using h)
      exact ⟨by simpa [show 900 + (k0 + 1 + k) = 900 + (k0 + (k + 1)) by omega] using this.1, by simpa using this.2⟩
theorem pinE_length : ∀ (ms : List Ent) (k : Nat), (pinE k ms).length = ms.length
  | [], _ => rfl
  | .box _ :: r, k => by simp [pinE, pinE_length r (k + 1)]
  | .row _ :: r, k => by simp [pinE, pinE_length r (k + 1)]
theorem pinE_get : ∀ (ms : List Ent) (k0 k : Nat) (e : Ent), ms[k]? = some e → (pinE k0 ms)[k]? = some (match e with | .box _ => 900 + (k0 + k) | .row _ => 1900 + (k0 + k))
  | [], _, k, e, h => by simp at h
  | .box c :: r, k0, 0, e, h => by simp at h; subst h; simp [pinE]
  | .row c :: r, k0, 0, e, h => by simp at h; subst h; simp [pinE]
  | .box c :: r, k0, k + 1, e, h => by
    have := pinE_get r (k0 + 1) k e (by simpa using h)
    simpa [pinE, show k0 + 1 + k = k0 + (k + 1) by omega] using this
  | .row c :: r, k0, k + 1, e, h => by
    have := pinE_get r (k0 + 1) k e (by simpa using h)
    simpa [pinE, show k0 + 1 + k = k0 + (k + 1) by omega] using this
theorem pinE_nodup (ms : List Ent) (h : ms.length ≤ 99) : (pinE 0 ms).Nodup := by
  rw [List.Nodup, List.pairwise_iff_getElem]
  intro i j hi hj hij
  rw [pinE_length] at hi hj
  have e1 := pinE_get ms 0 i _ (List.getElem?_eq_getElem hi)
  have e2 := pinE_get ms 0 j _ (List.getElem?_eq_getElem hj)
  rw [List.getElem?_eq_getElem (by rw [pinE_length]; exact hi)] at e1
  rw [List.getElem?_eq_getElem (by rw [pinE_length]; exact hj)] at e2
  simp only [Option.some.injEq] at e1 e2
  rw [e1, e2]
  split <;> split <;> omega

section
variable {P : Program} {n : Nat}
theorem ecall_mk {α : Type} {f : FuncId} {fn : Func} {c : Code} {xs : List D} {ms : List Ent} {m' : Nat} {I : α → Prop} {r : α → D} {ms' : α → List Ent} {rl : List ResultVar} (hf : P.funcs[f]? = some fn) (hb : fn.body = some c) (hn : fn.ntmps = n) (hr : fn.results = rl.toArray) (hcal : callable P f = true)
    (hd : xs.length ≤ n) (h9 : n ≤ 900) (h3 : ms.length ≤ 99) (hlt : idLtL ms.length xs = true) (hms : idLtEs ms.length ms = true)
    (h : Tr P n c (FinE P n rl ms m' I r ms') (mk (args 0 (bkL (pinE 0 ms) xs))) (setE (pinE 0 ms) (bkEs (pinE 0 ms) ms) (mkT []))) : ECall P f xs ms m' I r ms' := by
  subst hn
  refine ⟨hcal, fun w vs Im β him hvs hent hinj => ?_⟩
  have hnd := pinE_nodup ms h3
  have hpl := pinE_length ms 0
  generalize hN : pinE 0 ms = N at *
  let β0 := setB β N 0 (fun _ => ⟨0, 0, 0, true⟩)
  have hβ : ∀ k, k < ms.length → β0 (N.getD k 0) = β k := by
    intro k hk
    have := setB_at (β' := β) N 0 (fun _ => ⟨0, 0, 0, true⟩) k hnd (by omega)
    simpa using this
  let X : Xs := ⟨blkOf β ms.length, fun id => if 900 ≤ id ∧ id < 1000 ∧ id ∈ N then some (β0 id) else none, fun id hid => by rw [if_neg (by omega)]⟩
  have hM : ∀ k e, ms[k]? = some e → setE N (bkEs N ms) (mkT []) (N.getD k 0) = some (bkE N e) := by
    intro k e hk
    have hkl : k < ms.length := (List.getElem?_eq_some_iff.1 hk).1
    exact setE_at N _ _ k _ hnd (by omega) (by rw [bkEs_get, hk]; rfl)
  have hget : ∀ id e, setE N (bkEs N ms) (mkT []) id = some e → ∃ k e0, k < ms.length ∧ id = N.getD k 0 ∧ ms[k]? = some e0 ∧ e = bkE N e0 := by
    intro id e he
    by_cases hid : id ∈ N
    · obtain ⟨k, hk, rfl⟩ := List.getElem_of_mem hid
      have e1 : N.getD k 0 = N[k] := by simp [List.getD, hk]
      have hk' : k < ms.length := by omega
      have h2 := hM k _ (List.getElem?_eq_getElem hk')
      rw [e1, he] at h2
      cases h2
      exact ⟨k, _, hk', e1.symm, List.getElem?_eq_getElem hk', rfl⟩
    · rw [setE_other N _ _ id hid] at he
      cases he
  have nam : ∀ k e, ms[k]? = some e → setE N (bkEs N ms) (mkT []) (N.getD k 0) = some (bkE N e) ∧ β0 (N.getD k 0) = β k := fun k e hk => ⟨hM k e hk, hβ k (List.getElem?_eq_some_iff.1 hk).1⟩
  have hpv := RvL_nam (w := w) (Im := Im) nam xs vs hvs
  have hlenv := RvL_length _ _ hpv
  rw [bkL_length] at hlenv
  have hst : St w.heap.size X Im w fn.ntmps (mk (args 0 (bkL N xs))) (setE N (bkEs N ms) (mkT [])) { tmps := vs.toArray ++ Array.replicate (fn.ntmps - vs.toArray.size) undef, defers := [] } w := by
    rw [← init_mk]
    refine ⟨Im, β0, { defers := rfl, size := ?_, slots := ?_, hi := ?_, im := him, tab := ?_, own := ?_, inj := ?_, base := Nat.le_refl _, fr := Fr.refl _ _ _, imo := fun b hb => .inl hb, pin := ?_, small := .inl h9 }⟩
    · simp [hlenv]; omega
    · intro i hi
      rcases Nat.lt_or_ge i (bkL N xs).length with hlt' | hge
      · have h1 : (bkL N xs)[i]? = some ((bkL N xs).getD i .any) := by simp [List.getD, hlt']
        obtain ⟨v, h2, h3'⟩ := RvL_get _ _ i _ hpv h1
        rw [bkL_length] at hlt'
        have hiv : i < vs.length := by omega
        have h4 : (vs.toArray ++ Array.replicate (fn.ntmps - vs.toArray.size) undef).getD i undef = v := by
          simp [Array.getElem?_append, hiv]
          simpa [hiv] using h2
        rw [h4]
        exact h3'
      · have h1 : (bkL N xs).getD i .any = .any := by simp [List.getD, hge]
        rw [h1]
        simp [Rv, Rc]
    · intro i hi
      right
      have : (bkL N xs).length ≤ i := by rw [bkL_length]; omega
      simp [List.getD, this]
    · intro id e he
      obtain ⟨k, e0, hk, rfl, h2, rfl⟩ := hget id e he
      rw [hβ k hk]
      exact EntOk_nam nam e0 (hent k e0 h2)
    · intro id e he hnid
      obtain ⟨k, e0, hk, rfl, h2, rfl⟩ := hget id e he
      rw [hβ k hk] at hnid ⊢
      exact .inr ⟨k, hk, hnid, rfl⟩
    · intro id id' hs hs' hnid hnid' he
      obtain ⟨e, he1⟩ := Option.isSome_iff_exists.1 hs
      obtain ⟨e', he2⟩ := Option.isSome_iff_exists.1 hs'
      obtain ⟨k, e0, hk, rfl, h2, rfl⟩ := hget id e he1
      obtain ⟨k', e0', hk', rfl, h2', rfl⟩ := hget id' e' he2
      rw [hβ k hk] at hnid he
      rw [hβ k' hk'] at hnid' he
      rw [hinj k k' hk hk' hnid hnid' he]
    · intro id g hg
      simp only [X] at hg
      split at hg
      · cases hg; rfl
      · cases hg
  refine calls_of_wp hf hb (wp_mono (h _ _ _ _ _ _ hst) ?_)
  rintro e a' w' ⟨x, σ', M', hg0, hq, hx⟩
  have main : (∃ σ1 M1, Imp fn.ntmps σ' M' σ1 M1 ∧ resQ P σ1 M1 rl fun ds => ∃ (x : α) (ids : List Nat), I x ∧ packD ds = bk ids (r x) ∧ (ms' x).length = m' ∧ ids.length = m' ∧ idLt m' (r x) = true ∧ idLtEs m' (ms' x) = true ∧ ids.Nodup ∧ ids.map M1 = (bkEs ids (ms' x)).map some ∧ boxesOk 0 ms ids (ms' x) = true) → a'.defers = [] ∧ ∃ v, (results fn a'.tmps).run P w' = .ok v w' ∧
      ∃ v' y Im' β', Ending.returned v = .returned v' ∧ I y ∧ (ms' y).length = m' ∧ Rv w' Im' β' (tabE (ms' y)) (r y) v' ∧ idLt m' (r y) = true ∧ (∀ e ∈ ms' y, idLtE m' e = true) ∧
      (∀ b, Im' b → Im b ∨ w.heap.size ≤ b ∨ blkOf β ms.length b) ∧ (∀ b, Im' b → b < w'.heap.size) ∧ Fr w.heap.size (blkOf β ms.length) w w' ∧
      (∀ k e, (ms' y)[k]? = some e → EntOk w' Im' β' (tabE (ms' y)) (β' k) e ∧ ((β' k).nil = false → w.heap.size ≤ (β' k).blk ∨ blkOf β ms.length (β' k).blk)) ∧
      (∀ k k', k < m' → k' < m' → (β' k).nil = false → (β' k').nil = false → (β' k).blk = (β' k').blk → k = k') ∧
      (∀ k cs, ms[k]? = some (.box cs) → β' k = β k ∧ ∃ cs', (ms' y)[k]? = some (.box cs')) := by
    rintro ⟨σ1, M1, hI, hres⟩
    obtain ⟨Im', β2, hg⟩ := hI _ _ _ _ _ _ hg0
    refine ⟨hg.defers, ?_⟩
    obtain ⟨ds', vs', h1, h2, y, ids, hIy, hpk, hl1, hl2, hid1, hid2, hidn, hmap, hbo⟩ := res_sound hg _ _ hres
    have hrun : (results fn a'.tmps).run P w' = .ok (if h : vs'.toArray.size = 1 then vs'.toArray[0] else .tuple vs'.toArray) w' := by
      rw [results_eq, Array.mapM_eq_mapM_toList]
      simp only [Sem.run_bind, Sem.run_map, Sem.run_pure]
      rw [hr, h1]
      simp
    have hv : Rv w' Im' β2 M1 (packD ds') (if h : vs'.toArray.size = 1 then vs'.toArray[0] else .tuple vs'.toArray) := by
      have hl := RvL_length _ _ h2
      match ds', vs', h2, hl with
      | [d], [v], h2, _ =>
        simp only [RvL] at h2
        obtain ⟨u, t, e1, e2, e3⟩ := h2
        cases e1
        simpa [packD] using e2
      | [], [], h2, _ => simp only [packD, Rv]; exact ⟨[], by simp, by simp [RvL]⟩
      | d :: d' :: ds, v :: v' :: vs, h2, _ => simp only [packD, Rv]; exact ⟨v :: v' :: vs, by simp, h2⟩
    rw [hpk] at hv
    have at_ : ∀ k e, (ms' y)[k]? = some e → M1 (ids.getD k 0) = some (bkE ids e) := by
      intro k e hk
      have h1 : (ids.map M1)[k]? = ((bkEs ids (ms' y)).map some)[k]? := by rw [hmap]
      have hkl : k < (ms' y).length := (List.getElem?_eq_some_iff.1 hk).1
      rw [List.getElem?_map, List.getElem?_map, bkEs_get, hk] at h1
      have hik : k < ids.length := by omega
      simp only [List.getElem?_eq_getElem hik, Option.map_some, Option.some.injEq] at h1
      simpa [List.getD, hik] using h1
    refine ⟨_, hrun, _, y, Im', fun k => β2 (ids.getD k 0), rfl, hIy, hl1, Rv_num at_ _ _ (by rw [hl1]; exact hid1) hv, hid1, idLtEs_mem hid2, ?_, hg.im, hg.fr, ?_, ?_, ?_⟩
    · intro b hb
      exact hg.imo b hb
    · intro k e hk
      refine ⟨EntOk_num at_ e (by rw [hl1]; exact idLtEs_mem hid2 e (List.mem_of_getElem? hk)) (hg.tab _ _ (at_ k e hk)), fun hnil => hg.own _ _ (at_ k e hk) hnil⟩
    · intro k k' hk hk' hn1 hn2 he
      have m1 := at_ k _ (List.getElem?_eq_getElem (by omega))
      have m2 := at_ k' _ (List.getElem?_eq_getElem (by omega))
      exact getD_inj hidn (by omega) (by omega) (hg.inj _ _ (by rw [m1]; rfl) (by rw [m2]; rfl) hn1 hn2 he)
    · intro k cs hk
      obtain ⟨e1, e2⟩ := boxesOk_get ms 0 ids (ms' y) hbo k cs hk
      refine ⟨?_, e2⟩
      have hkl : k < ms.length := (List.getElem?_eq_some_iff.1 hk).1
      have e3 := pinE_get ms 0 k _ hk
      rw [hN] at e3
      simp only [Nat.zero_add] at e1 e3
      have e4 : N.getD k 0 = 900 + k := by simp [List.getD, e3]
      have e5 : ids.getD k 0 = 900 + k := by simp [List.getD, e1]
      have e6 := hβ k hkl
      rw [e4] at e6
      have e7 := hg.pin (900 + k) (β0 (900 + k)) (by simp only [X]; rw [if_pos ⟨by omega, by omega, List.mem_of_getElem? e3⟩])
      show β2 (ids.getD k 0) = β k
      rw [e5, e7, e6]
  cases x with
  | exit id => simp [FinE] at hq
  | normal => simp only at hx; subst hx; simp only [bodyPost]; exact main hq
  | ret => simp only at hx; subst hx; simp only [bodyPost]; exact main hq

variable {σ : Slots} {M : Tab}
theorem fin_e {α : Type} {rl : List ResultVar} {ms : List Ent} {m' : Nat} {I : α → Prop} {r : α → D} {ms' : α → List Ent} {σ1 : Slots} {M1 : Tab} (x : α) (ids : List Nat) (hI : Imp n σ M σ1 M1) (hx : I x)
    (h : resQ P σ1 M1 rl fun ds => packD ds = bk ids (r x) ∧ ids.map M1 = (bkEs ids (ms' x)).map some) (h1 : (ms' x).length = m' := by rfl) (h2 : ids.length = m' := by rfl) (h3 : idLt m' (r x) = true := by rfl) (h4 : idLtEs m' (ms' x) = true := by rfl) (h5 : ids.Nodup := by decide) (h6 : boxesOk 0 ms ids (ms' x) = true := by rfl) : FinE P n rl ms m' I r ms' .ret σ M :=
  ⟨σ1, M1, hI, resQ_mono (fun ds ⟨h7, h8⟩ => ⟨x, ids, hx, h7, h1, h2, h3, h4, h5, h8, h6⟩) _ h⟩
theorem fin_eN {α : Type} {rl : List ResultVar} {ms : List Ent} {m' : Nat} {I : α → Prop} {r : α → D} {ms' : α → List Ent} {σ1 : Slots} {M1 : Tab} (x : α) (ids : List Nat) (hI : Imp n σ M σ1 M1) (hx : I x)
    (h : resQ P σ1 M1 rl fun ds => packD ds = bk ids (r x) ∧ ids.map M1 = (bkEs ids (ms' x)).map some) (h1 : (ms' x).length = m' := by rfl) (h2 : ids.length = m' := by rfl) (h3 : idLt m' (r x) = true := by rfl) (h4 : idLtEs m' (ms' x) = true := by rfl) (h5 : ids.Nodup := by decide) (h6 : boxesOk 0 ms ids (ms' x) = true := by rfl) : FinE P n rl ms m' I r ms' .normal σ M :=
  ⟨σ1, M1, hI, resQ_mono (fun ds ⟨h7, h8⟩ => ⟨x, ids, hx, h7, h1, h2, h3, h4, h5, h8, h6⟩) _ h⟩
end
/-! such calls in a walk -/
mutual
theorem scrs_nil : ∀ (d : D), scrs [] d = d
  | .int .. | .bool _ | .str _ | .nov | .any | .nl | .sl _ | .ep .. => rfl
  | .ptr .. => rfl
  | .fp .. => rfl
  | .fs _ => rfl
  | .agg cs => by simp only [scrs, scrsL_nil]
  | .tup cs => by simp only [scrs, scrsL_nil]
theorem scrsL_nil : ∀ (ds : List D), scrsL [] ds = ds
  | [] => rfl
  | d :: ds => by simp only [scrsL, scrs_nil d, scrsL_nil ds]
end
theorem scrsS_nil (σ : Nat → D) : scrsS [] σ = σ := by funext i; exact scrs_nil _
theorem scrsM_nil (M : Nat → Option Ent) : scrsM [] M = M := by
  funext i
  simp only [scrsM]
  cases M i with
  | none => rfl
  | some e => cases e <;> simp [Ent.scrs, scrsL_nil]
def scrsP (l : List Nat) : List (Nat × D) → List (Nat × D)
  | [] => []
  | (i, d) :: s => (i, scrs l d) :: scrsP l s
def scrsT (l : List Nat) : List (Nat × Ent) → List (Nat × Ent)
  | [] => []
  | (i, e) :: s => (i, e.scrs l) :: scrsT l s
theorem scrsS_mk (l : List Nat) : ∀ (s : List (Nat × D)), scrsS l (mk s) = mk (scrsP l s)
  | [] => by funext j; simp [scrsS, mk, scrsP, scrs]
  | (i, d) :: s => by
    funext j
    have := congrFun (scrsS_mk l s) j
    simp only [scrsS, mk, scrsP] at this ⊢
    split
    · rfl
    · exact this
theorem scrsM_mkT (l : List Nat) : ∀ (s : List (Nat × Ent)), scrsM l (mkT s) = mkT (scrsT l s)
  | [] => by funext j; simp [scrsM, mkT, scrsT]
  | (i, e) :: s => by
    funext j
    have := congrFun (scrsM_mkT l s) j
    simp only [scrsM, mkT, scrsT] at this ⊢
    split
    · rfl
    · exact this
theorem eQ {α : Type} {P : Program} {n d : Nat} {σ σ1 : Slots} {M M1 : Tab} {f : FuncId} {args : List Operand} {K : Slots → Tab → Prop} {ys : List D} {ms : List Ent} {m' : Nat} {I : α → Prop} {r : α → D} {ms' : α → List Ent} (ids : List Nat) (c : ECall P f ys ms m' I r ms')
    (k : ∀ x : α, I x → K (upd (scrsS (struck d ids ms m') σ1) d (bk (namesB d ids m') (r x))) (setE (namesB d ids m') (bkEs (namesB d ids m') (ms' x)) (scrsM (struck d ids ms m') M1)))
    (hI : Imp n σ M σ1 M1 := by exact Imp.refl _ _ _) (hx : args.map (ev σ1) = bkL ids ys := by rfl) (hm : ids.map M1 = (bkEs ids ms).map some := by rfl) (hy : idLtL ms.length ys = true := by rfl) (hms : idLtEs ms.length ms = true := by rfl) (hlen : ids.length = ms.length := by rfl) (hle : decide (ms.length ≤ m') = true := by rfl)
    (hn : (namesB d ids m').Nodup := by decide) (hlo : ((rowIds ids ms).all fun id => decide (id < 900) || decide (1000 ≤ id)) = true := by rfl) : ecallQ P n M σ d f args K :=
  ⟨α, σ1, M1, ids, ys, ms, m', I, r, ms', hI, hx, hy, idLtEs_mem hms, hlen, of_decide_eq_true hle, hm, hn, fun id hid => by have := List.all_eq_true.1 hlo id hid; simpa using this, c, k⟩
theorem nze {A B : Prop} (b : B) (e : B → A := by intro b; simp only [struck, rowIds, newIds, namesB, scrsS_nil, scrsM_nil, scrsS_mk, scrsM_mkT, scrsP, scrsT, scrs, scrsL, memN, Ent.scrs, bk, bkL, bkE, bkEs, setE, frzP, frzT, frz, frzL, Ent.frz, Nat.reduceMul, Nat.reduceAdd, Nat.reduceSub, Nat.reduceEqDiff, reduceIte, rid, Bool.false_eq_true, bA, bB]; exact b) : A := e b
end Go.Proofs.YtmiclkgkfkcnoaaGreat

/- Drawn regions with calls that hand a variable over: an order of one's own serves every order. -/
namespace Go.Proofs.YtmiclkgkfkcnoaaGreat
open Go.RowKit
set_option linter.unusedVariables false
def opOk (Z : List Nat) (ρ : Operand → D) (op : Op) : Bool :=
  match op with
  | .load _ x => match ρ x with | .ptr j _ _ => !memN Z j | _ => true
  | _ => true
inductive Dr where
  | d (δ : Dg)
  | ec (z : Nat) (fam : D → Ent → Prop)
  | ws (z : Nat) (e' : Ent)
  | g (fam : Slots → Tab → Prop)
inductive Cr where
  | u
  | v (d : D) (e : Ent)
  | s (σ : Slots) (M : Tab)
def chR : Dr → Cr → Prop
  | .d _, c => c = .u
  | .ec _ fam, c => ∃ v e, c = .v v e ∧ fam v e
  | .ws _ _, c => c = .u
  | .g fam, c => ∃ σ M, c = .s σ M ∧ fam σ M
def putR (s : SG) (o : Oper) : Dr → Cr → SG
  | .d δ, _ => putG s o δ
  | .ec z _, .v v e => (putA s.1 o.dst v, upd s.2.1 z (some e), s.2.2)
  | .ws z e', _ => (s.1, upd s.2.1 z (some e'), s.2.2)
  | .g _, .s σ M => (σ, M, s.2.2)
  | _, _ => s
def clsR (E W G A : List Nat) (o : Oper) : Nat :=
  match o.dst with
  | some d => if memN E d then 5 else if memN G d then 6 else cls [] o
  | none => match o.op with
    | .store _ (.tmp p) _ => if memN A p then 2 else if memN W p then 7 else 6
    | _ => 8
def okR (E W G A : List Nat) (ops : Array Oper) (oi oj : Oper) : Bool :=
  match clsR E W G A oi, clsR E W G A oj with
  | 0, 5 | 1, 5 | 3, 5 | 0, 7 | 1, 7 | 3, 7 => true
  | 0, 0 | 0, 1 | 1, 0 | 1, 1 | 0, 3 | 3, 0 | 1, 3 | 3, 1 | 3, 3 | 0, 2 | 2, 0 | 1, 2 | 2, 1 | 2, 2 => okG [] ops oi oj
  | _, _ => false

section
variable {P : Program} {n : Nat} {ops : Array Oper} {E W G A Z : List Nat}
def ECz (P : Program) (n : Nat) (σ : Slots) (M : Tab) (f : FuncId) (args : List Operand) (z : Nat) (fam : D → Ent → Prop) : Prop :=
  ∃ (α : Type) (cs : List D) (ys : List D) (I : α → Prop) (r : α → D) (c' : α → List D),
    args.map (ev σ) = bkL [z] ys ∧ idLtL 1 ys = true ∧ idLtL 1 cs = true ∧ M z = some (.box (bkL [z] cs)) ∧ ECall P f ys [.box cs] 1 I r (fun x => [.box (c' x)]) ∧ (∀ x, I x → fam (bk [z] (r x)) (.box (bkL [z] (c' x)))) ∧ ∀ v e, fam v e → ∃ cs', e = .box cs'
def YR (P : Program) (n : Nat) (ops : Array Oper) (E W G A Z : List Nat) (o : Oper) (δ : Dr) (s : SG) : Prop :=
  match δ with
  | .d δ => YG P n ops [] A o δ s ∧ clsR E W G A o = clsD δ ∧ (match δ with | .q _ => opOk Z (ev s.1) o.op = true | .e _ _ => False | .b _ _ => False | _ => True)
  | .ec z fam => clsR E W G A o = 5 ∧ z ∈ Z ∧ o.guard = none ∧ ∃ d f args ts, o.dst = some d ∧ d < n ∧ s.2.2 d = none ∧ o.op = .call ⟨.value (.func f), args, ts⟩ ∧ ECz P n s.1 s.2.1 f args.toList z fam
  | .ws z e' => clsR E W G A o = 7 ∧ z ∈ Z ∧ o.guard = none ∧ o.dst = none ∧ ∃ t x y cs cs', o.op = .store t x y ∧ s.2.1 z = some (.box cs) ∧ e' = .box cs' ∧ storeQ P s.2.1 t (ev s.1 x) (ev s.1 y) fun m => m = upd s.2.1 z (some e')
  | .g fam => clsR E W G A o = 6 ∧ o.guard = none ∧ (∀ i, s.2.2 i = none) ∧ stp P n o.dst o.op s.1 s.2.1 fam
def rOp (P : Program) (n : Nat) (ops : Array Oper) (E W G A Z : List Nat) (i : Nat) (K : SG → Prop) (s : SG) : Prop :=
  match ops[i]? with
  | none => K s
  | some o => ∃ δ, YR P n ops E W G A Z o δ s ∧ ∀ c, chR δ c → K (putR s o δ c)
def rAny (P : Program) (n : Nat) (ops : Array Oper) (E W G A Z : List Nat) (md : Region.Mode) (Q : SG → Prop) : Nat → Array Bool → SG → Prop
  | 0, listed, s => Region.ready md ops listed = [] ∧ Q s
  | fuel + 1, listed, s => (Region.ready md ops listed = [] → Q s) ∧ ∀ i ∈ Region.ready md ops listed, rOp P n ops E W G A Z i (rAny P n ops E W G A Z md Q fuel (listed.setIfInBounds i true)) s
def rOps (P : Program) (n : Nat) (ops : Array Oper) (E W G A Z : List Nat) : List Oper → SG → (SG → Prop) → Prop
  | [], s, K => K s
  | o :: rest, s, K => ∃ δ, YR P n ops E W G A Z o δ s ∧ ∀ c, chR δ c → rOps P n ops E W G A Z rest (putR s o δ c) K

/-! what is read beside the variable stays -/
theorem rowsOf_box {M : Tab} {z : Nat} {cs cs' : List D} (hz : M z = some (.box cs)) (d : D) : rowsOf (upd M z (some (.box cs'))) d = rowsOf M d := by
  cases d <;> simp only [rowsOf]
  · rename_i id
    by_cases h : id = z
    · subst h; rw [upd_same, hz]
    · rw [upd_ne _ _ h]
  · rename_i id _ _
    by_cases h : id = z
    · subst h; rw [upd_same, hz]
    · rw [upd_ne _ _ h]
mutual
theorem view_box {M : Tab} {z : Nat} {cs cs' : List D} (hz : M z = some (.box cs)) : ∀ (d : D), view (upd M z (some (.box cs'))) d = view M d
  | .int .. | .bool _ | .str _ | .nov | .any | .nl | .sl _ | .ep .. | .ptr .. | .fp .. => by simp only [view]
  | .fs id => by
    simp only [view]
    by_cases h : id = z
    · subst h; rw [upd_same, hz]
    · rw [upd_ne _ _ h]
  | .agg cs => by simp only [view, viewL_box hz cs]
  | .tup cs => by simp only [view, viewL_box hz cs]
theorem viewL_box {M : Tab} {z : Nat} {cs cs' : List D} (hz : M z = some (.box cs)) : ∀ (ds : List D), viewL (upd M z (some (.box cs'))) ds = viewL M ds
  | [] => rfl
  | d :: ds => by simp only [viewL, view_box hz d, viewL_box hz ds]
end
theorem qv_box {M : Tab} {z : Nat} {cs cs' : List D} (hz : M z = some (.box cs)) (hZ : z ∈ Z) {ρ : Operand → D} {K : D → Prop} {op : Op} (ho : opOk Z ρ op = true) (h : qv P M ρ K op) : qv P (upd M z (some (.box cs'))) ρ K op := by
  have other : ∀ id, id ≠ z → upd M z (some (.box cs')) id = M id := fun id hid => upd_ne _ _ hid
  unfold qv at h ⊢
  split at h
  case h_8 t x =>
    revert h ho
    simp only [opOk]
    cases hx : ρ x with
    | ptr id i off =>
      intro ho h
      have hid : id ≠ z := by
        rintro rfl
        have := (memN_iff Z id).2 hZ
        simp [this] at ho
      simp only [other id hid]
      exact h
    | ep row off => exact fun _ h => h
    | _ => exact fun _ h => h
  case h_10 t x i =>
    revert h
    split
    · exact fun h => h
    · rename_i id kd m hd hx hi
      rintro ⟨rows, h1, h2⟩
      refine ⟨rows, ?_, h2⟩
      by_cases hid : id = z
      · subst hid; rw [hz] at h1; cases h1
      · rw [other id hid]; exact h1
    · exact fun h => h
  case h_13 t x lo hi =>
    revert h
    split
    · exact fun h => h
    · rename_i id hd hx
      rintro ⟨rows, h1, h2⟩
      refine ⟨rows, ?_, h2⟩
      by_cases hid : id = z
      · subst hid; rw [hz] at h1; cases h1
      · rw [other id hid]; exact h1
    · exact fun h => h
  all_goals first
    | exact h
    | (simp only [rowsOf_box hz]; exact h)
theorem hv_box {M : Tab} {z : Nat} {cs cs' : List D} (hz : M z = some (.box cs)) (hZ : z ∈ Z) {ρ : Operand → D} {K : D → Prop} {op : Op} (ho : opOk Z ρ op = true) (h : hv P M ρ K op) : hv P (upd M z (some (.box cs'))) ρ K op := by
  unfold hv at h ⊢
  split at h
  · rename_i c
    split at h
    · rename_i f hf
      simp only [viewL_box hz]
      exact h
    · exact qv_box hz hZ ho h
  · exact h
  · exact qv_box hz hZ ho h
theorem opOk_congr {σ σ' : Slots} {op : Op} (h : ∀ t, Operand.tmp t ∈ op.operands → σ' t = σ t) : opOk Z (ev σ') op = opOk Z (ev σ) op := by
  cases op <;> simp only [opOk]
  rename_i t x
  have : ev σ' x = ev σ x := by
    cases x with
    | tmp p => exact h p (by simp [Op.operands])
    | _ => rfl
  rw [this]

/-! the orders -/
theorem rOp_mono {i : Nat} {s : SG} {K K' : SG → Prop} (h : ∀ s, K s → K' s) (hh : rOp P n ops E W G A Z i K s) : rOp P n ops E W G A Z i K' s := by
  unfold rOp at hh ⊢
  split
  · rename_i ho; simp only [ho] at hh; exact h _ hh
  · rename_i o ho; simp only [ho] at hh; obtain ⟨δ, h1, h2⟩ := hh; exact ⟨δ, h1, fun c hc => h _ (h2 c hc)⟩
theorem YR_comm (oi oj : Oper) (hap : oi.apart ops oj = true) (hok : okR E W G A ops oi oj = true) (δi δj : Dr) (s : SG) (ci : Cr) (hy : YR P n ops E W G A Z oi δi s) (hci : chR δi ci) (hj : YR P n ops E W G A Z oj δj (putR s oi δi ci)) :
    YR P n ops E W G A Z oj δj s ∧ ∀ c, chR δj c → YR P n ops E W G A Z oi δi (putR s oj δj c) ∧ putR (putR s oi δi ci) oj δj c = putR (putR s oj δj c) oi δi ci := by
  obtain ⟨h1, h2, h3⟩ := Oper.apart_spec hap
  obtain ⟨σ, M, Y⟩ := s
  -- only what is sure comes first
  cases δi with
  | ec z fam => have := hy.1; simp [okR, this] at hok
  | ws z e' => have := hy.1; simp [okR, this] at hok
  | g fam => have := hy.1; simp [okR, this] at hok
  | d δ =>
    obtain ⟨y1, y2, y3⟩ := hy
    have hlt : clsD δ = 0 ∨ clsD δ = 1 ∨ clsD δ = 2 ∨ clsD δ = 3 := by
      cases δ <;> simp_all [clsD]
    cases δj with
    | d δ' =>
      obtain ⟨z1, z2, z3⟩ := hj
      have hlt' : clsD δ' = 0 ∨ clsD δ' = 1 ∨ clsD δ' = 2 ∨ clsD δ' = 3 := by
        cases δ' <;> simp_all [clsD]
      have hok' : okG [] ops oi oj = true := by
        rw [okR, y2, z2] at hok
        rcases hlt with e | e | e | e <;> rcases hlt' with e' | e' | e' | e' <;> rw [e, e'] at hok <;> simp_all
      obtain ⟨g1, g2, g3⟩ := YG_comm oi oj hap hok' δ δ' (σ, M, Y) y1 z1
      have slot : ∀ (o : Oper) (δ0 : Dg) (s0 : SG) (t : Nat), YG P n ops [] A o δ0 s0 → (∀ p en e, δ0 ≠ .st p en e) → (∀ a b, δ0 ≠ .b a b) → o.dst ≠ some t → (putG s0 o δ0).1 t = s0.1 t := by
        intro o δ0 s0 t hY hn1 hn2 ht
        cases δ0 with
        | q d => simp only [putG]; exact putA_get ht
        | f d => simp only [putG]; exact putA_get ht
        | e x en => simp only [putG]; exact putA_get ht
        | al en => rfl
        | st p en e => exact absurd rfl (hn1 p en e)
        | b a b' => exact absurd rfl (hn2 a b')
      refine ⟨⟨g1, z2, ?_⟩, fun c hc => ?_⟩
      · cases δ' with
        | q d =>
          have hst : ∀ p en e, δ ≠ .st p en e := by
            rintro p en e rfl
            rw [okR, y2, z2] at hok
            simp [clsD] at hok
          have hb : ∀ a b, δ ≠ .b a b := by rintro a b rfl; exact y3
          rw [← opOk_congr (σ := σ) (σ' := (putR (σ, M, Y) oi (.d δ) ci).1) (op := oj.op)]
          · exact z3
          · intro t ht
            refine slot oi δ (σ, M, Y) t y1 hst hb fun hh => ?_
            exact h1 t hh (looks_of_operand ht)
        | e x en => exact z3
        | b a b => exact z3
        | _ => trivial
      · simp only [chR] at hc
        subst hc
        refine ⟨⟨g2, y2, ?_⟩, g3⟩
        cases δ with
        | q d =>
          have hst : ∀ p en e, δ' ≠ .st p en e := by
            rintro p en e rfl
            rw [okR, y2, z2] at hok
            simp [clsD] at hok
          have hb : ∀ a b, δ' ≠ .b a b := by rintro a b rfl; exact z3
          rw [opOk_congr (σ := σ)]
          · exact y3
          · intro t ht
            refine slot oj δ' (σ, M, Y) t g1 hst hb fun hh => ?_
            exact h3 t hh (looks_of_operand ht)
        | e x en => exact y3
        | b a b => exact y3
        | _ => trivial
    | g fam =>
      have := hj.1
      rw [okR, y2, this] at hok
      rcases hlt with e | e | e | e <;> rw [e] at hok <;> simp at hok
    | ec z fam =>
      obtain ⟨c1, hZ, hg, d, f, args, ts, hd, hdn, hYd, hop, hec⟩ := hj
      have hn2 : clsD δ ≠ 2 := by
        intro e; rw [okR, y2, c1, e] at hok; simp at hok
      obtain ⟨α, cs, ys, I, r, c', e1, e2, e3, e4, e5, e6, e7⟩ := hec
      have hargs : ∀ t, Operand.tmp t ∈ args.toList → t ∈ oj.looksAt ops := fun t ht => looks_of_operand (by rw [hop]; simpa [Op.operands, Call.operands] using ht)
      cases δ with
      | q di =>
        obtain ⟨k1, ⟨k2, k3⟩, k4⟩ := y1
        simp only [putR, putG] at e1 e4 hYd
        have hev : args.toList.map (ev (putA σ oi.dst di)) = args.toList.map (ev σ) := map_congr fun x hx => ev_putA fun t ht hxt => h1 t ht (hargs t (hxt ▸ hx))
        rw [hev] at e1
        refine ⟨⟨c1, hZ, hg, d, f, args, ts, hd, hdn, hYd, hop, α, cs, ys, I, r, c', e1, e2, e3, e4, e5, e6, e7⟩, fun c hc => ?_⟩
        obtain ⟨v, e, rfl, hfam⟩ := hc
        obtain ⟨cs', rfl⟩ := e7 v e hfam
        refine ⟨⟨⟨k1, ⟨k2, ?_⟩, k4⟩, y2, ?_⟩, ?_⟩
        · simp only [putR]
          rw [wantA_put h3, hv_put h3]
          exact k3.imp (fun ⟨a, b⟩ => ⟨a, hv_box e4 hZ y3 b⟩) id
        · simp only [putR]
          rw [opOk_congr (σ := σ)]
          · exact y3
          · exact fun t ht => putA_get fun hh => h3 t hh (looks_of_operand ht)
        · simp only [putR, putG]
          rw [putA_comm σ di v h2]
      | f di =>
        obtain ⟨k1, ⟨ti, k2, k3, k4⟩, k5⟩ := y1
        simp only [putR, putG] at e1 e4 hYd
        have hev : args.toList.map (ev (putA σ oi.dst di)) = args.toList.map (ev σ) := map_congr fun x hx => ev_putA fun t ht hxt => h1 t ht (hargs t (hxt ▸ hx))
        rw [hev] at e1
        refine ⟨⟨c1, hZ, hg, d, f, args, ts, hd, hdn, hYd, hop, α, cs, ys, I, r, c', e1, e2, e3, e4, e5, e6, e7⟩, fun c hc => ?_⟩
        obtain ⟨v, e, rfl, hfam⟩ := hc
        refine ⟨⟨⟨k1, ⟨ti, k2, k3, k4⟩, ?_⟩, y2, trivial⟩, ?_⟩
        · exact fv_congr (fun t ht => (putA_get fun hh => h3 t hh (looks_of_operand ht)).symm) k5
        · simp only [putR, putG]
          rw [putA_comm σ di v h2]
      | al en =>
        obtain ⟨k1, d0, t, z0, hd0, hop0, hA, hdn0, hs, hY0, hM0, rest⟩ := y1
        simp only [putR, putG, hd0] at e1 e4 hYd
        have hne : d ≠ d0 := fun hh => h2 d0 hd0 (hh ▸ hd)
        rw [effY_get hne (fun hh => by cases hh)] at hYd
        refine ⟨⟨c1, hZ, hg, d, f, args, ts, hd, hdn, hYd, hop, α, cs, ys, I, r, c', e1, e2, e3, e4, e5, e6, e7⟩, fun c hc => ?_⟩
        obtain ⟨v, e, rfl, hfam⟩ := hc
        have hz0 : d0 ≠ z := by rintro rfl; simp only at hM0; rw [hM0] at e4; cases e4
        refine ⟨⟨⟨k1, d0, t, z0, hd0, hop0, hA, hdn0, ?_, hY0, ?_, rest⟩, y2, trivial⟩, ?_⟩
        · simp only [putR]; rw [putA_get (fun hh => by rw [hd] at hh; cases hh; exact hne rfl)]; exact hs
        · simp only [putR]; rw [upd_ne _ _ hz0]; exact hM0
        · simp only [putR, putG, hd0]
      | e x en => exact y3.elim
      | b a b => exact y3.elim
      | st p en e' => exact absurd rfl hn2
    | ws z e' =>
      obtain ⟨c1, hZ, hg, hdn, t, x, y, cs, cs', hop, hMz, rfl, hst⟩ := hj
      have hn2 : clsD δ ≠ 2 := by
        intro e; rw [okR, y2, c1, e] at hok; simp at hok
      have look : ∀ q, (x = .tmp q ∨ y = .tmp q) → q ∈ oj.looksAt ops := fun q hq => looks_of_operand (by rw [hop]; rcases hq with rfl | rfl <;> simp [Op.operands])
      cases δ with
      | q di =>
        obtain ⟨k1, ⟨k2, k3⟩, k4⟩ := y1
        simp only [putR, putG] at hMz hst
        have hx : ev (putA σ oi.dst di) x = ev σ x := ev_putA fun q hq hxq => h1 q hq (look q (.inl hxq))
        have hy' : ev (putA σ oi.dst di) y = ev σ y := ev_putA fun q hq hxq => h1 q hq (look q (.inr hxq))
        rw [hx, hy'] at hst
        refine ⟨⟨c1, hZ, hg, hdn, t, x, y, cs, cs', hop, hMz, rfl, hst⟩, fun c hc => ?_⟩
        simp only [chR] at hc
        subst hc
        refine ⟨⟨⟨k1, ⟨k2, k3.imp (fun ⟨a, b⟩ => ⟨a, hv_box hMz hZ y3 b⟩) id⟩, k4⟩, y2, y3⟩, ?_⟩
        simp only [putR, putG]
      | f di =>
        obtain ⟨k1, ⟨ti, k2, k3, k4⟩, k5⟩ := y1
        simp only [putR, putG] at hMz hst
        have hx : ev (putA σ oi.dst di) x = ev σ x := ev_putA fun q hq hxq => h1 q hq (look q (.inl hxq))
        have hy' : ev (putA σ oi.dst di) y = ev σ y := ev_putA fun q hq hxq => h1 q hq (look q (.inr hxq))
        rw [hx, hy'] at hst
        refine ⟨⟨c1, hZ, hg, hdn, t, x, y, cs, cs', hop, hMz, rfl, hst⟩, fun c hc => ?_⟩
        simp only [chR] at hc
        subst hc
        exact ⟨⟨⟨k1, ⟨ti, k2, k3, k4⟩, k5⟩, y2, trivial⟩, by simp only [putR, putG]⟩
      | al en =>
        obtain ⟨k1, d0, t0, z0, hd0, hop0, hA, hdn0, hs, hY0, hM0, rest⟩ := y1
        simp only [putR, putG, hd0] at hMz hst
        have hz0 : d0 ≠ z := by rintro rfl; simp only at hM0; rw [hM0] at hMz; cases hMz
        refine ⟨⟨c1, hZ, hg, hdn, t, x, y, cs, cs', hop, hMz, rfl, hst⟩, fun c hc => ?_⟩
        simp only [chR] at hc
        subst hc
        refine ⟨⟨⟨k1, d0, t0, z0, hd0, hop0, hA, hdn0, hs, hY0, ?_, rest⟩, y2, trivial⟩, by simp only [putR, putG, hd0]⟩
        simp only [putR]; rw [upd_ne _ _ hz0]; exact hM0
      | e x en => exact y3.elim
      | b a b => exact y3.elim
      | st p en e' => exact absurd rfl hn2
theorem rOp_put {j : Nat} {oi oj : Oper} {δ : Dr} {ci : Cr} (hj : ops[j]? = some oj) (hap : oi.apart ops oj = true) (hok : okR E W G A ops oi oj = true) {K : SG → Prop} {s : SG}
    (hy : YR P n ops E W G A Z oi δ s) (hci : chR δ ci) (h : rOp P n ops E W G A Z j K (putR s oi δ ci)) : rOp P n ops E W G A Z j (fun s' => YR P n ops E W G A Z oi δ s' ∧ K (putR s' oi δ ci)) s := by
  unfold rOp at h ⊢
  simp only [hj] at h ⊢
  obtain ⟨δj, z1, z2⟩ := h
  obtain ⟨g1, g2⟩ := YR_comm oi oj hap hok δ δj s ci hy hci z1
  exact ⟨δj, g1, fun c hc => ⟨(g2 c hc).1, by rw [← (g2 c hc).2]; exact z2 c hc⟩⟩
theorem rOp_now {i : Nat} {oi : Oper} {δ : Dr} (hi : ops[i]? = some oi) {s : SG} {K : SG → Prop} (hy : YR P n ops E W G A Z oi δ s) (hk : ∀ c, chR δ c → K (putR s oi δ c)) : rOp P n ops E W G A Z i K s := by
  unfold rOp; simp only [hi]; exact ⟨δ, hy, hk⟩
theorem sure_of {oi oj : Oper} {δ : Dr} {s : SG} (hok : okR E W G A ops oi oj = true) (hy : YR P n ops E W G A Z oi δ s) : chR δ .u ∧ ∀ c, chR δ c → c = .u := by
  cases δ with
  | d δ => exact ⟨rfl, fun c hc => hc⟩
  | ec z fam => have := hy.1; simp [okR, this] at hok
  | ws z e' => exact ⟨rfl, fun c hc => hc⟩
  | g fam => have := hy.1; simp [okR, this] at hok
theorem rAny_first {md : Region.Mode} {Q : SG → Prop} {i : Nat} {oi : Oper} {δ : Dr} (hi : ops[i]? = some oi) :
    ∀ (fuel : Nat) (listed : Array Bool) (s : SG), Closed md ops listed →
      (∀ j oj, ops[j]? = some oj → j ≠ i → listed.getD j true = false → ¬ Up md ops i j → oi.apart ops oj = true ∧ okR E W G A ops oi oj = true) →
      i ∈ Region.ready md ops listed → YR P n ops E W G A Z oi δ s →
      (∀ c, chR δ c → rAny P n ops E W G A Z md Q fuel (listed.setIfInBounds i true) (putR s oi δ c)) → rAny P n ops E W G A Z md Q (fuel + 1) listed s := by
  intro fuel
  induction fuel with
  | zero =>
    intro listed s hc hfree hr hy H
    refine ⟨fun h => (by rw [h] at hr; cases hr), fun j hj => ?_⟩
    by_cases hji : j = i
    · subst hji; exact rOp_now hi hy H
    · obtain ⟨hjun, oj, hoj, hall⟩ := mem_ready.1 hj
      have hnot : ¬ Up md ops i j := fun hu => (hu.not_done hc (getD_both (mem_ready.1 hr).1)).1 hj
      obtain ⟨ha, hk⟩ := hfree j oj hoj hji hjun hnot
      obtain ⟨u1, u2⟩ := sure_of hk hy
      have := ready_mono hj hji
      rw [(H .u u1).1] at this
      cases this
  | succ fuel ih =>
    intro listed s hc hfree hr hy H
    refine ⟨fun h => (by rw [h] at hr; cases hr), fun j hj => ?_⟩
    by_cases hji : j = i
    · subst hji; exact rOp_now hi hy H
    · obtain ⟨hjun, oj, hoj, hall⟩ := mem_ready.1 hj
      have hnot : ¬ Up md ops i j := fun hu => (hu.not_done hc (getD_both (mem_ready.1 hr).1)).1 hj
      obtain ⟨ha, hk⟩ := hfree j oj hoj hji hjun hnot
      obtain ⟨u1, u2⟩ := sure_of hk hy
      have h1 := (H .u u1).2 j (ready_mono hj hji)
      have h2 := rOp_put hoj ha hk hy u1 h1
      have hfree' : ∀ k ok', ops[k]? = some ok' → k ≠ i → (listed.setIfInBounds j true).getD k true = false → ¬ Up md ops i k → oi.apart ops ok' = true ∧ okR E W G A ops oi ok' = true := fun k ok' hk hki hun hno => by
        refine hfree k ok' hk hki ?_ hno
        by_cases hjk : j = k
        · subst hjk; exact hjun
        · rw [getD_set_ne true hjk] at hun; exact hun
      refine rOp_mono (fun s' h3 => ih (listed.setIfInBounds j true) s' (hc.set hj) hfree' (ready_mono hr (Ne.symm hji)) h3.1 fun c hc' => ?_) h2
      rw [u2 c hc', Array.setIfInBounds_comm _ _ hji]
      exact h3.2
def lexR (md : Region.Mode) (ops : Array Oper) (ok : Oper → Oper → Bool) : List Nat → Array Bool → Bool
  | [], listed => (Region.ready md ops listed).isEmpty
  | k :: r, listed => (Region.ready md ops listed).contains k && freeK md ops ok listed k && lexR md ops ok r (listed.setIfInBounds k true)
theorem rAny_lex {md : Region.Mode} {Q : SG → Prop} : ∀ (js : List Nat) (l : List Oper) (listed : Array Bool) (s : SG), Closed md ops listed → js.map (ops[·]?) = l.map some →
    lexR md ops (okR E W G A ops) js listed = true → rOps P n ops E W G A Z l s Q → rAny P n ops E W G A Z md Q js.length listed s
  | [], [], _, _, _, _, hB, h => ⟨by simpa [lexR] using hB, h⟩
  | [], _ :: _, _, _, _, hl, _, _ => by simp at hl
  | _ :: _, [], _, _, _, hl, _, _ => by simp at hl
  | k :: js, o :: l, listed, s, hc, hl, hB, h => by
    simp only [List.map_cons, List.cons.injEq] at hl
    obtain ⟨h0, hl⟩ := hl
    simp only [lexR, Bool.and_eq_true] at hB
    obtain ⟨⟨hr, hf⟩, hB'⟩ := hB
    have hr' : k ∈ Region.ready md ops listed := by simpa using hr
    obtain ⟨δ, hy, hK⟩ := h
    exact rAny_first h0 js.length listed s hc (freeK_spec h0 hf) hr' hy fun c hc' => rAny_lex js l _ _ (hc.set hr') hl hB' (hK c hc')
def pickL {α : Type} : List α → Nat → List α
  | [], _ => []
  | a :: _, 0 => [a]
  | _ :: l, k + 1 => pickL l k
def permL {α : Type} (l : List α) : List Nat → List α
  | [] => []
  | k :: js => pickL l k ++ permL l js
theorem pickL_get {α : Type} : ∀ (l : List α) (k : Nat), k < l.length → ∃ a, l[k]? = some a ∧ pickL l k = [a]
  | [], k, h => by simp at h
  | a :: l, 0, _ => ⟨a, by simp, rfl⟩
  | a :: l, k + 1, h => by obtain ⟨x, h1, h2⟩ := pickL_get l k (by simpa using h); exact ⟨x, by simpa using h1, h2⟩
theorem permL_map {α : Type} (l : List α) : ∀ (js : List Nat), js.all (fun k => decide (k < l.length)) = true → js.map (l[·]?) = (permL l js).map some
  | [], _ => rfl
  | k :: js, h => by
    simp only [List.all_cons, Bool.and_eq_true, decide_eq_true_eq] at h
    obtain ⟨a, h1, h2⟩ := pickL_get l k h.1
    simp only [permL, h2, List.map_cons, List.cons_append, List.nil_append, h1, permL_map l js h.2]
end

section
variable {P : Program} {n : Nat} {ops : Array Oper} {E W G A Z : List Nat} {B0 : Nat} {X : Xs} {I0 : Nat → Prop} {w0 : World} {md : Region.Mode}
theorem wpOp_of_rOp (h9 : n ≤ 900) {i : Nat} {s : SG} {a : Act} {w : World} {K : SG → Prop} {K' : Act → World → Prop} {Q' : Exit → Act → World → Prop} (hs : StX B0 X I0 w0 n s.1 s.2.1 s.2.2 a w) (hk : ∀ s a w, StX B0 X I0 w0 n s.1 s.2.1 s.2.2 a w → K s → K' a w) (hh : rOp P n ops E W G A Z i K s) : wpOp P ops Q' i K' a w := by
  cases ho : ops[i]? with
  | none =>
    unfold rOp at hh
    unfold wpOp
    simp only [ho] at hh ⊢
    exact hk _ _ _ hs hh
  | some o =>
    unfold rOp at hh
    simp only [ho] at hh
    obtain ⟨δ, hy, hK⟩ := hh
    have priv : ∀ i e, s.2.2 i = some e → s.2.1 i = none := by
      obtain ⟨_, _, _, _, hp⟩ := hs
      exact fun i e hi => (hp.lt i e hi).2
    cases δ with
    | d δ =>
      refine wpOp_of_kOp (B := []) (A := A) h9 hs hk ?_
      unfold kOp
      simp only [ho]
      exact ⟨δ, hy.1, hK .u rfl⟩
    | ec z fam =>
      obtain ⟨_, _, hg, d, f, args, ts, hd, hdn, hYd, hop, α, cs, ys, I, r, c', e1, e2, e3, e4, e5, e6, e7⟩ := hy
      unfold wpOp
      simp only [ho]
      have hw : Region.wanted o (yielded ops a.tmps) = true := by simp [Region.wanted, hg]
      rw [hw]
      simp only [if_true]
      refine .inl (stpX_sound hs (o := o) (K := fun x m => ∃ v e, fam v e ∧ x = putA s.1 o.dst v ∧ m = upd s.2.1 z (some e)) (fun t ht => by rw [hd] at ht; cases ht; exact hYd) ?_ ?_ K' Q' fun σ' m' a' w' h2 h3 => ?_)
      · rw [hd, hop]
        simp only [stp]
        refine ⟨hdn, .inr (.inr ⟨α, s.1, s.2.1, [z], ys, [.box cs], 1, I, r, fun x => [.box (c' x)], Imp.refl _ _ _, e1, e2, ?_, rfl, Nat.le_refl _, ?_, ?_, ?_, e5, fun x hx => ?_⟩)⟩
        · intro e he; rw [List.mem_singleton.1 he]; exact e3
        · simp only [List.map_cons, List.map_nil, bkEs, bkE, e4]
        · simp [namesB, newIds]
        · intro id hid; simp [rowIds] at hid
        · refine ⟨bk [z] (r x), .box (bkL [z] (c' x)), e6 x hx, ?_, ?_⟩
          · simp only [struck, rowIds, newIds, List.length_cons, List.length_nil, Nat.sub_self, List.append_nil, scrsS_nil, namesB, putA]
          · simp only [struck, rowIds, newIds, List.length_cons, List.length_nil, Nat.sub_self, List.append_nil, scrsM_nil, namesB, setE, bkEs, bkE]
      · rintro σ' m' ⟨v, e, _, _, rfl⟩ i e0 hi
        have := priv i e0 hi
        rw [upd_ne _ _ (fun hh => by subst hh; rw [e4] at this; cases this)]
        exact this
      · obtain ⟨v, e, hf, rfl, rfl⟩ := h3
        exact hk (putR s o (.ec z fam) (.v v e)) _ _ h2 (hK (.v v e) ⟨v, e, rfl, hf⟩)
    | ws z e' =>
      obtain ⟨_, _, hg, hdn, t, x, y, cs, cs', hop, hMz, rfl, hst⟩ := hy
      unfold wpOp
      simp only [ho]
      have hw : Region.wanted o (yielded ops a.tmps) = true := by simp [Region.wanted, hg]
      rw [hw]
      simp only [if_true]
      refine .inl (stpX_sound hs (o := o) (K := fun x m => x = s.1 ∧ m = upd s.2.1 z (some (.box cs'))) (fun t ht => by rw [hdn] at ht; cases ht) ?_ ?_ K' Q' fun σ' m' a' w' h2 h3 => ?_)
      · rw [hdn, hop]
        simp only [stp]
        exact wpOp_of_kOp.storeQ_mono (fun m hm => ⟨by first | rfl | trivial, hm⟩) hst
      · rintro σ' m' ⟨_, rfl⟩ i e0 hi
        have := priv i e0 hi
        rw [upd_ne _ _ (fun hh => by subst hh; rw [hMz] at this; cases this)]
        exact this
      · obtain ⟨rfl, rfl⟩ := h3
        exact hk (putR s o (.ws z (.box cs')) .u) _ _ h2 (hK .u rfl)
    | g fam =>
      obtain ⟨_, hg, hY, hst⟩ := hy
      unfold wpOp
      simp only [ho]
      have hw : Region.wanted o (yielded ops a.tmps) = true := by simp [Region.wanted, hg]
      rw [hw]
      simp only [if_true]
      refine .inl (stpX_sound hs (o := o) (K := fam) (fun t ht => hY t) hst (fun _ _ _ i e hi => by rw [hY i] at hi; cases hi) K' Q' fun σ' m' a' w' h2 h3 => ?_)
      exact hk (putR s o (.g fam) (.s σ' m')) _ _ h2 (hK (.s σ' m') ⟨σ', m', rfl, h3⟩)
theorem wpAny_of_rAny (h9 : n ≤ 900) {Q : SG → Prop} {Q' : Exit → Act → World → Prop} (hQ : ∀ s a w, StX B0 X I0 w0 n s.1 s.2.1 s.2.2 a w → Q s → Q' .normal a w) : ∀ (fuel : Nat) (listed : Array Bool) (s : SG) (a : Act) (w : World), StX B0 X I0 w0 n s.1 s.2.1 s.2.2 a w →
    rAny P n ops E W G A Z md Q fuel listed s → wpAny P md ops Q' fuel listed a w
  | 0, _, _, _, _, hs, h => ⟨h.1, hQ _ _ _ hs h.2⟩
  | fuel + 1, _, _, _, _, hs, h => ⟨fun h0 => hQ _ _ _ hs (h.1 h0), fun i hi => wpOp_of_rOp h9 hs (fun s' a' w' hs' => wpAny_of_rAny h9 hQ fuel _ s' a' w' hs') (h.2 i hi)⟩
theorem t_drawR {id : Nat} {l : List Oper} {Q : Ex → Slots → Tab → Prop} {σ : Slots} {M : Tab} (js E W G A Z : List Nat)
    (h : ∀ K : Slots → Tab → Prop, (∀ σ M, Q .normal σ M → K σ M) → rOps P n l.toArray E W G A Z (permL l js) (σ, M, mkT []) fun s => K (realS s.1 s.2.2) (realM s.2.1 s.2.2))
    (hm : P.follows .mixedOrders = true := by kernel_rfl) (h9 : n ≤ 900 := by decide) (hn : decide (js.length = l.length) = true := by kernel_rfl) (ha : js.all (fun k => decide (k < l.length)) = true := by kernel_rfl)
    (hB : lexR .any l.toArray (okR E W G A l.toArray) js (Array.replicate l.toArray.size false) = true := by kernel_rfl) : Tr P n (.region id l.toArray true) Q σ M := by
  intro B0 X I0 w0 a w hs
  refine wp_region_any hm (wpAny_of_rAny h9 (E := E) (W := W) (G := G) (A := A) (Z := Z) (Q := fun s => Q .normal (realS s.1 s.2.2) (realM s.2.1 s.2.2)) (fun s a' w' h1 h2 => ⟨.normal, _, _, h1.real h9, h2, rfl⟩) _ _ (σ, M, mkT []) a _ (StX.of hs.drew) ?_)
  have hc : Closed .any l.toArray (Array.replicate l.toArray.size false) := fun j oj _ hl => by rw [getD_replicate_false] at hl; cases hl
  have hmap : js.map (l.toArray[·]?) = (permL l js).map some := by simpa using permL_map l js ha
  have := rAny_lex (P := P) (n := n) (Z := Z) (md := .any) js (permL l js) (Array.replicate l.toArray.size false) (σ, M, mkT []) hc hmap hB (h _ (fun _ _ h => h))
  have e : js.length = l.toArray.size := by simpa using of_decide_eq_true hn
  rw [e] at this
  exact this
end
/-! ### the steps -/
section
variable {P : Program} {n : Nat} {ops : Array Oper} {E W G A Z : List Nat} {σ : Slots} {M : Tab} {K : SG → Prop} {y : List (Nat × Ent)} {rest : List Oper} {type : TypeId} {pos : String} {after : Array Edge} {d t : Nat} {op : Op} {g : Option (Nat × Bool)}
instance {dst : Option Tmp} : OpK (rOps P n ops E W G A Z (⟨dst, op, type, pos, after, g⟩ :: rest) (σ, M, mkT y) K) 21 := ⟨trivial⟩
instance {s : SG} : OpK (rOps P n ops E W G A Z [] s K) 20 := ⟨trivial⟩
instance : OpK (rOps P n ops E W G A Z (⟨some d, .alloc t, type, pos, after, none⟩ :: rest) (σ, M, mkT y) K) 22 := ⟨trivial⟩
instance {x v : Operand} : OpK (rOps P n ops E W G A Z (⟨none, .store t x v, type, pos, after, none⟩ :: rest) (σ, M, mkT y) K) 23 := ⟨trivial⟩
instance {f : FuncId} {args : Array Operand} {ts : Array TypeId} : OpK (rOps P n ops E W G A Z (⟨some d, .call ⟨.value (.func f), args, ts⟩, type, pos, after, none⟩ :: rest) (σ, M, mkT y) K) 24 := ⟨trivial⟩
theorem r_nil {s : SG} (h : K s) : rOps P n ops E W G A Z [] s K := h
theorem r_val {R : (D → Prop) → Prop} (h : ∀ K' : D → Prop, (∀ v, rOps P n ops E W G A Z rest (upd σ d v, M, mkT y) K → K' v) → R K')
    (e : ∀ K', R K' → hv P M (ev σ) K' op := by intro KK r; simp only [stp, hv, qv, ev, cD, scr, scrL, Ent.scr, flat, one, binQ, ldQ, storeQ, lay, Nat.reduceLT, Nat.reduceLeDiff, Nat.reduceAdd, Nat.reduceEqDiff, Nat.reduceMul, Nat.reduceSub, reduceIte, reduceCtorEq, fillQ, bne_iff_ne, Nat.reduceBNe, Nat.reduceBEq, rowsOf, cloL, clo, exists_eq_left', exists_and_left, appendQ, partsQ, Int.cast_ofNat_Int, Int.reduceBEq, Int.reduceBNe, Int.reduceLT, Int.reduceLE, Int.reduceEq, Int.reduceNe, Int.reduceAdd, Int.reduceSub, Int.reduceNeg, Int.reduceToNat, decide_true, decide_false, ne_eq, not_false_eq_true, true_and, and_true, Nat.add_zero, Nat.zero_add, Nat.not_lt_zero, Bool.not_true, Bool.not_false, Int.le_refl, bA, bB, callQ, viewL, view, noFsL, noFs, intsOf, Option.map_some, bT, gx, fx]; exact r)
    (hc : clsR E W G A ⟨some d, op, type, pos, after, none⟩ = 3 ∨ (clsR E W G A ⟨some d, op, type, pos, after, none⟩ = 0 ∧ isFree op = true) := by first | exact .inl rfl | exact .inr ⟨rfl, rfl⟩) (hd : d < n := by decide) (hY : mkT y d = none := by rfl) (ho : opOk Z (ev σ) op = true := by rfl) :
    rOps P n ops E W G A Z (⟨some d, op, type, pos, after, none⟩ :: rest) (σ, M, mkT y) K := by
  obtain ⟨v, h1, h2⟩ := hv_ex (e _ (h _ (fun _ h => h)))
  have hcls : clsR E W G A ⟨some d, op, type, pos, after, none⟩ = cls [] ⟨some d, op, type, pos, after, none⟩ := by
    have : clsR E W G A ⟨some d, op, type, pos, after, none⟩ ≠ 5 ∧ clsR E W G A ⟨some d, op, type, pos, after, none⟩ ≠ 6 := by
      rcases hc with hc | ⟨hc, _⟩ <;> rw [hc] <;> exact ⟨by decide, by decide⟩
    simp only [clsR] at this ⊢
    split
    · rename_i h; simp [h] at this
    · split
      · rename_i h h'; simp [h, h'] at this
      · rfl
  rcases hc with hc | ⟨hc, hf⟩
  · refine ⟨.d (.q v), ⟨⟨by rw [← hcls]; exact hc, ⟨fun t ht => by cases ht; exact hd, .inl ⟨rfl, h1⟩⟩, fun t ht => by cases ht; exact hY⟩, hc, ho⟩, fun c hcc => ?_⟩
    cases hcc; exact h2
  · refine ⟨.d (.f v), ⟨⟨by rw [← hcls]; exact hc, ⟨d, rfl, hd, hY⟩, hv_fv h1 hf⟩, hc, trivial⟩, fun c hcc => ?_⟩
    cases hcc; exact h2
theorem r_alloc {z : List D} (hz : (tI P t).zero = z) (hk : rOps P n ops E W G A Z rest (σ, M, mkT ((d, .box z) :: y)) K) (hz0 : z ≠ [] := by simp) (hz1 : z.all one = true := by rfl) (hz2 : z.all flatC = true := by rfl) (hA : memN A d = true := by rfl) (hc : clsR E W G A ⟨some d, .alloc t, type, pos, after, none⟩ = 1 := by rfl) (hd : d < n := by decide) (hσ : σ d = .any := by rfl) (hY : mkT y d = none := by rfl) (hM : M d = none := by rfl) :
    rOps P n ops E W G A Z (⟨some d, .alloc t, type, pos, after, none⟩ :: rest) (σ, M, mkT y) K := by
  refine ⟨.d (.al (.box z)), ⟨⟨rfl, d, t, z, rfl, rfl, (memN_iff A d).1 hA, hd, hσ, hY, hM, rfl, hz, hz0, hz1, hz2⟩, hc, trivial⟩, fun c hcc => ?_⟩
  cases hcc
  have e1 : effY (mkT y) d none (.box z) = mkT ((d, .box z) :: y) := by rw [effY_none]
  simpa only [putR, putG, e1] using hk
theorem r_store {p : Nat} {v : Operand} {en : Ent} {R : (Tab → Prop) → Prop} (hp : mkT y p = some en) (h : ∀ K' : Tab → Prop, (∀ M', rOps P n ops E W G A Z rest (upd σ p (pv p en), M', mkT (del p y)) K → K' M') → R K')
    (e : ∀ K', R K' → storeQ P (upd M p (some en)) t (pv p en) (ev σ v) K' := by intro KK r; simp only [pv, stp, hv, qv, ev, cD, scr, scrL, Ent.scr, flat, one, binQ, ldQ, storeQ, lay, Nat.reduceLT, Nat.reduceLeDiff, Nat.reduceAdd, Nat.reduceEqDiff, Nat.reduceMul, Nat.reduceSub, reduceIte, reduceCtorEq, fillQ, bne_iff_ne, Nat.reduceBNe, Nat.reduceBEq, rowsOf, cloL, clo, exists_eq_left', exists_and_left, appendQ, partsQ, Int.cast_ofNat_Int, Int.reduceBEq, Int.reduceBNe, Int.reduceLT, Int.reduceLE, Int.reduceEq, Int.reduceNe, Int.reduceAdd, Int.reduceSub, Int.reduceNeg, Int.reduceToNat, decide_true, decide_false, ne_eq, not_false_eq_true, true_and, and_true, Nat.add_zero, Nat.zero_add, Nat.not_lt_zero, Bool.not_true, Bool.not_false, Int.le_refl, bA, bB, callQ, viewL, view, noFsL, noFs, intsOf, Option.map_some, bT, gx, fx]; exact r) (hv : v ≠ .tmp p := by simp) (hp9 : p < 900 := by decide) (hM : M p = none := by rfl) (hc : clsR E W G A ⟨none, .store t (.tmp p) v, type, pos, after, none⟩ = 2 := by rfl) :
    rOps P n ops E W G A Z (⟨none, .store t (.tmp p) v, type, pos, after, none⟩ :: rest) (σ, M, mkT y) K := by
  obtain ⟨e', h1, h2⟩ := storeQ_to (e _ (h _ (fun _ h => h)))
  refine ⟨.d (.st p en e'), ⟨⟨rfl, t, v, rfl, rfl, hv, hp, ⟨hp9, hM⟩, h1⟩, hc, trivial⟩, fun c hcc => ?_⟩
  cases hcc
  simpa only [putR, putG, dropY_mk] using h2
theorem r_ec {α : Type} {f : FuncId} {args : Array Operand} {ts : Array TypeId} {z : Nat} {ys cs : List D} {I : α → Prop} {r : α → D} {c' : α → List D} (c : ECall P f ys [.box cs] 1 I r (fun x => [.box (c' x)]))
    (k : ∀ x, I x → rOps P n ops E W G A Z rest (upd σ d (bk [z] (r x)), upd M z (some (.box (bkL [z] (c' x)))), mkT y) K) (hx : args.toList.map (ev σ) = bkL [z] ys := by rfl) (hM : M z = some (.box (bkL [z] cs)) := by rfl) (h1 : idLtL 1 ys = true := by rfl) (h2 : idLtL 1 cs = true := by rfl)
    (hc : clsR E W G A ⟨some d, .call ⟨.value (.func f), args, ts⟩, type, pos, after, none⟩ = 5 := by rfl) (hZ : memN Z z = true := by rfl) (hd : d < n := by decide) (hY : mkT y d = none := by rfl) :
    rOps P n ops E W G A Z (⟨some d, .call ⟨.value (.func f), args, ts⟩, type, pos, after, none⟩ :: rest) (σ, M, mkT y) K := by
  refine ⟨.ec z (fun v e => ∃ x, I x ∧ v = bk [z] (r x) ∧ e = .box (bkL [z] (c' x))), ⟨hc, (memN_iff Z z).1 hZ, rfl, d, f, args, ts, rfl, hd, hY, rfl, α, cs, ys, I, r, c', hx, h1, h2, hM, c, fun x hx => ⟨x, hx, rfl, rfl⟩, fun v e ⟨x, _, _, he⟩ => ⟨_, he⟩⟩, fun cc hcc => ?_⟩
  obtain ⟨v, e, rfl, x, hx, rfl, rfl⟩ := hcc
  exact k x hx
theorem r_ws {x v : Operand} {z i off : Nat} {cs : List D} {R : (Tab → Prop) → Prop} (hx : ev σ x = .ptr z i off) (hM : M z = some (.box cs)) (h : ∀ K' : Tab → Prop, (∀ M', rOps P n ops E W G A Z rest (σ, M', mkT y) K → K' M') → R K')
    (e : ∀ K', R K' → storeQ P M t (ev σ x) (ev σ v) K' := by intro KK r; simp only [stp, hv, qv, ev, cD, scr, scrL, Ent.scr, flat, one, binQ, ldQ, storeQ, lay, Nat.reduceLT, Nat.reduceLeDiff, Nat.reduceAdd, Nat.reduceEqDiff, Nat.reduceMul, Nat.reduceSub, reduceIte, reduceCtorEq, fillQ, bne_iff_ne, Nat.reduceBNe, Nat.reduceBEq, rowsOf, cloL, clo, exists_eq_left', exists_and_left, appendQ, partsQ, Int.cast_ofNat_Int, Int.reduceBEq, Int.reduceBNe, Int.reduceLT, Int.reduceLE, Int.reduceEq, Int.reduceNe, Int.reduceAdd, Int.reduceSub, Int.reduceNeg, Int.reduceToNat, decide_true, decide_false, ne_eq, not_false_eq_true, true_and, and_true, Nat.add_zero, Nat.zero_add, Nat.not_lt_zero, Bool.not_true, Bool.not_false, Int.le_refl, bA, bB, callQ, viewL, view, noFsL, noFs, intsOf, Option.map_some, bT, gx, fx]; exact r) (hc : clsR E W G A ⟨none, .store t x v, type, pos, after, none⟩ = 7 := by rfl) (hZ : memN Z z = true := by rfl) :
    rOps P n ops E W G A Z (⟨none, .store t x v, type, pos, after, none⟩ :: rest) (σ, M, mkT y) K := by
  have h0 := e _ (h _ (fun _ h => h))
  have : ∃ cs', storeQ P M t (ev σ x) (ev σ v) (fun m => m = upd M z (some (.box cs'))) ∧ rOps P n ops E W G A Z rest (σ, upd M z (some (.box cs')), mkT y) K := by
    rw [hx] at h0 ⊢
    cases hf : flat (ev σ v) with
    | none => simp [storeQ, hf] at h0
    | some us =>
      simp only [storeQ, hf, hM] at h0 ⊢
      obtain ⟨g1, g2, g3, g4, g5, g6⟩ := h0
      exact ⟨_, ⟨g1, g2, g3, g4, g5, rfl⟩, g6⟩
  obtain ⟨cs', h1, h2⟩ := this
  refine ⟨.ws z (.box cs'), ⟨hc, (memN_iff Z z).1 hZ, rfl, rfl, t, x, v, cs, cs', rfl, hM, rfl, h1⟩, fun c hcc => ?_⟩
  cases hcc
  exact h2
theorem r_g {dst : Option Tmp} {R : (Slots → Tab → Prop) → Prop} (h : ∀ K' : Slots → Tab → Prop, (∀ σ' M', rOps P n ops E W G A Z rest (σ', M', mkT []) K → K' σ' M') → R K')
    (e : ∀ K', R K' → stp P n dst op σ M K' := by intro KK r; simp only [stp, hv, qv, ev, cD, scr, scrL, Ent.scr, flat, one, binQ, ldQ, storeQ, lay, Nat.reduceLT, Nat.reduceLeDiff, Nat.reduceAdd, Nat.reduceEqDiff, Nat.reduceMul, Nat.reduceSub, reduceIte, reduceCtorEq, fillQ, bne_iff_ne, Nat.reduceBNe, Nat.reduceBEq, rowsOf, cloL, clo, exists_eq_left', exists_and_left, appendQ, partsQ, Int.cast_ofNat_Int, Int.reduceBEq, Int.reduceBNe, Int.reduceLT, Int.reduceLE, Int.reduceEq, Int.reduceNe, Int.reduceAdd, Int.reduceSub, Int.reduceNeg, Int.reduceToNat, decide_true, decide_false, ne_eq, not_false_eq_true, true_and, and_true, Nat.add_zero, Nat.zero_add, Nat.not_lt_zero, Bool.not_true, Bool.not_false, Int.le_refl, bA, bB, callQ, viewL, view, noFsL, noFs, intsOf, Option.map_some, bT, gx, fx]; exact r) (hc : clsR E W G A ⟨dst, op, type, pos, after, none⟩ = 6 := by rfl) :
    rOps P n ops E W G A Z (⟨dst, op, type, pos, after, none⟩ :: rest) (σ, M, mkT []) K := by
  refine ⟨.g (fun σ' M' => rOps P n ops E W G A Z rest (σ', M', mkT []) K), ⟨hc, rfl, fun i => rfl, e _ (h _ (fun _ _ h => h))⟩, fun c hcc => ?_⟩
  obtain ⟨σ', M', rfl, hh⟩ := hcc
  exact hh
end
end Go.Proofs.YtmiclkgkfkcnoaaGreat

/- A nil slice in a variable, from now on an own row without cells. -/
namespace Go.Proofs.YtmiclkgkfkcnoaaGreat
open Go.RowKit
set_option linter.unusedVariables false
theorem RvL_setNil {w : World} {Im : Nat → Prop} {β β' : Nat → RowG} {M M' : Nat → Option Ent} {x : Nat} (ha : Agree β β' M M') (hx : Rv w Im β' M' (.fs x) (.slice none 0 0)) : ∀ (j : Nat) (cs : List D) (vs : List Value), cs[j]? = some .nl → RvL w Im β M cs vs → RvL w Im β' M' (cs.set j (.fs x)) vs
  | j, [], vs, h, _ => by simp at h
  | 0, d :: cs, vs, h, hv => by
    simp only [List.getElem?_cons_zero, Option.some.injEq] at h
    subst h
    simp only [RvL, List.set_cons_zero] at hv ⊢
    obtain ⟨v, r, rfl, h1, h2⟩ := hv
    simp only [Rv, Rc] at h1
    subst h1
    exact ⟨_, r, rfl, hx, RvL_mono (fun _ _ _ => rfl) (fun _ hb => hb) ha _ _ h2⟩
  | j + 1, d :: cs, vs, h, hv => by
    simp only [RvL, List.set_cons_succ] at hv ⊢
    obtain ⟨v, r, rfl, h1, h2⟩ := hv
    exact ⟨v, r, rfl, Rv_mono (fun _ _ _ => rfl) (fun _ hb => hb) ha _ _ h1, RvL_setNil ha hx j cs r (by simpa using h) h2⟩
theorem imp_nilB {n : Nat} {l : List (Nat × D)} {m : List (Nat × Ent)} {σ' : Slots} {M' : Tab} (p j x : Nat) {cells : List D} (hp : mkT m p = some (.box cells)) (hj : cells[j]? = some .nl) (hx : mkT m x = none)
    (h : Imp n (mk l) (mkT ((x, .row []) :: (p, .box (cells.set j (.fs x))) :: m)) σ' M') (hlo : x < 900 ∨ 1000 ≤ x := by decide) : Imp n (mk l) (mkT m) σ' M' := by
  refine Imp.trans ?_ h
  clear h
  rintro B0 X I0 w0 a w ⟨Im, β, h⟩
  have hpx : p ≠ x := by rintro rfl; rw [hp] at hx; cases hx
  have hag : Agree β (upd β x ⟨0, 0, 0, true⟩) (mkT m) (mkT ((x, .row []) :: (p, .box (cells.set j (.fs x))) :: m)) := by
    intro id hs
    have hne : id ≠ x := fun e => by rw [e, hx] at hs; cases hs
    by_cases hip : id = p
    · subst hip
      simp [upd, mkT, hne, hp, Ent.len]
    · simp [upd, mkT, hne, hip, hs]
  have hget : ∀ {i e}, mkT ((x, Ent.row []) :: (p, .box (cells.set j (.fs x))) :: m) i = some e → (i = x ∧ e = .row []) ∨ (i ≠ x ∧ i = p ∧ e = .box (cells.set j (.fs x))) ∨ (i ≠ x ∧ i ≠ p ∧ mkT m i = some e) := by
    intro i e hi
    simp only [mkT] at hi
    split at hi
    · rename_i e1; cases hi; exact .inl ⟨e1, rfl⟩
    · rename_i e1
      split at hi
      · rename_i e2; cases hi; exact .inr (.inl ⟨e1, e2, rfl⟩)
      · rename_i e2; exact .inr (.inr ⟨e1, e2, hi⟩)
  have hsome : ∀ {i e}, mkT ((x, Ent.row []) :: (p, .box (cells.set j (.fs x))) :: m) i = some e → i ≠ x → ∃ e0, mkT m i = some e0 := by
    intro i e hi hne
    rcases hget hi with ⟨h1, _⟩ | ⟨_, rfl, _⟩ | ⟨_, _, h1⟩
    · exact absurd h1 hne
    · exact ⟨_, hp⟩
    · exact ⟨_, h1⟩
  refine ⟨Im, upd β x ⟨0, 0, 0, true⟩, { defers := h.defers, size := h.size, slots := fun i hi => Rv_mono (fun _ _ _ => rfl) (fun _ hb => hb) hag _ _ (h.slots i hi), hi := h.hi, im := h.im, tab := ?_, own := ?_, inj := ?_, base := h.base, fr := h.fr, imo := h.imo, pin := fun j g' hj => by rw [upd_ne _ _ (fun e => by rw [e, X.lo x hlo] at hj; cases hj)]; exact h.pin j g' hj, small := h.small }⟩
  · intro i e hi
    rcases hget hi with ⟨rfl, rfl⟩ | ⟨hne, rfl, rfl⟩ | ⟨hne, hne', hi'⟩
    · simp [EntOk, upd]
    · rw [upd_ne _ _ hne]
      have h0 := h.tab i _ hp
      simp only [EntOk] at h0 ⊢
      obtain ⟨g1, g2, cur, ty, g3, g4, g5⟩ := h0
      refine ⟨g1, g2, cur, ty, g3, g4, RvL_setNil hag ?_ j _ _ hj g5⟩
      simp [Rv, mkT, Ent.len, upd, RowG.val]
    · rw [upd_ne _ _ hne]
      exact EntOk_mono (fun _ _ _ => rfl) (fun _ hb => hb) hag (fun hn => h.not_im hi' hn) (fun _ => rfl) _ (h.tab i e hi')
  · intro i e hi hn
    rcases hget hi with ⟨rfl, rfl⟩ | ⟨hne, rfl, rfl⟩ | ⟨hne, hne', hi'⟩
    · simp [upd] at hn
    · rw [upd_ne _ _ hne] at hn ⊢
      exact h.own i _ hp hn
    · rw [upd_ne _ _ hne] at hn ⊢
      exact h.own i e hi' hn
  · intro i i' hi hi' hn hn' he
    obtain ⟨e, hie⟩ := Option.isSome_iff_exists.1 hi
    obtain ⟨e', hie'⟩ := Option.isSome_iff_exists.1 hi'
    by_cases c1 : i = x
    · subst c1; simp [upd] at hn
    · by_cases c2 : i' = x
      · subst c2; simp [upd] at hn'
      · obtain ⟨e0, h1⟩ := hsome hie c1
        obtain ⟨e0', h2⟩ := hsome hie' c2
        rw [upd_ne _ _ c1] at hn he
        rw [upd_ne _ _ c2] at hn' he
        exact h.inj i i' (by rw [h1]; rfl) (by rw [h2]; rfl) hn hn' he
end Go.Proofs.YtmiclkgkfkcnoaaGreat
