/- The quiet operations: those that leave the world as it is and give one value. -/
import Derived.Test.YtelolknpcmjdeaaMb
import Derived.Laws.StructEq
import Derived.Laws.BytesString
import Derived.Laws.Tables
namespace Go.Proofs.Ytelolknpcmjdeaa
open Go.RowKit

def cD : Value → D
  | .int k n => .int k n
  | .bool b => .bool b
  | .string s => .str s.data.toList
  | .slice none 0 0 => .nl
  | _ => .any

/-- What the evaluator asks of a type. -/
inductive TD where
  | int (k : IntKind)
  | bool
  | str
  | struct (fs : List (Nat × Nat))
  | slice (elem : TypeId) (es eb : Nat) (ez : List D)
  | other
structure TI where
  d : TD
  size : Nat
  zero : List D
def zerosOf (P : Program) (t : TypeId) : List D :=
  match (P.info? t).bind (·.zero) with
  | some z => z.cells.toList.map cD
  | none => []
def tI (P : Program) (t : TypeId) : TI :=
  { d := match P.underlying t with
      | some (.int k) => .int k
      | some .bool => .bool
      | some .string => .str
      | some (.struct fs) => .struct (fs.toList.map fun f => (f.offset, ((P.info? f.type).map (·.size)).getD 0))
      | some (.slice e) => .slice e (((P.info? e).map (·.size)).getD 0) (((P.info? e).map (·.bytes)).getD 0) (zerosOf P e)
      | _ => .other
    size := ((P.info? t).map (·.size)).getD 0
    zero := zerosOf P t }

def ev (σ : Nat → D) : Operand → D
  | .tmp t => σ t
  | .const v => cD v
  | .global _ => .any
  | .func _ => .any

def intsOf : List D → Option (List Int)
  | [] => some []
  | .int .i64 n :: r => (intsOf r).map (n :: ·)
  | _ => none
/-- '==' at a struct of so many ints is what it should be -/
def AggEq (P : Program) (t : TypeId) (m : Nat) : Prop :=
  ∀ (w : World) (x y : Operand) (xs ys : List Int), xs.length = m → ys.length = m →
    (do eqGuard .eql t x y (.agg (xs.map (Value.int .i64)).toArray) (.agg (ys.map (Value.int .i64)).toArray); binOp .eql t (.agg (xs.map (Value.int .i64)).toArray) (.agg (ys.map (Value.int .i64)).toArray)).run P w = .ok (.bool (decide (xs = ys))) w ∧
    (do eqGuard .neq t x y (.agg (xs.map (Value.int .i64)).toArray) (.agg (ys.map (Value.int .i64)).toArray); binOp .neq t (.agg (xs.map (Value.int .i64)).toArray) (.agg (ys.map (Value.int .i64)).toArray)).run P w = .ok (.bool (!decide (xs = ys))) w

def binQ (P : Program) (t : TypeId) (op : BinOp) (x y : D) (K : D → Prop) : Prop :=
  match x, y with
  | .int k a, .int k' b =>
    match op with
    | .shl => 0 ≤ b ∧ K (.int k (k.wrap (a * 2 ^ (min b.toNat k.bits))))
    | .shr => 0 ≤ b ∧ K (.int k (a.fdiv (2 ^ (min b.toNat k.bits))))
    | .add => k = k' ∧ K (.int k (k.wrap (a + b)))
    | .sub => k = k' ∧ K (.int k (k.wrap (a - b)))
    | .mul => k = k' ∧ K (.int k (k.wrap (a * b)))
    | .quo => k = k' ∧ b ≠ 0 ∧ K (.int k (k.wrap (a.tdiv b)))
    | .rem => k = k' ∧ b ≠ 0 ∧ K (.int k (a.tmod b))
    | .and => k = k' ∧ K (.int k (k.wrap (BitVec.ofInt k.bits a &&& BitVec.ofInt k.bits b).toNat))
    | .or => k = k' ∧ K (.int k (k.wrap (BitVec.ofInt k.bits a ||| BitVec.ofInt k.bits b).toNat))
    | .xor => k = k' ∧ K (.int k (k.wrap (BitVec.ofInt k.bits a ^^^ BitVec.ofInt k.bits b).toNat))
    | .andNot => k = k' ∧ K (.int k (k.wrap (BitVec.ofInt k.bits a &&& ~~~ BitVec.ofInt k.bits b).toNat))
    | .eql => k = k' ∧ K (.bool (a == b))
    | .neq => k = k' ∧ K (.bool (a != b))
    | .lss => k = k' ∧ K (.bool (decide (a < b)))
    | .leq => k = k' ∧ K (.bool (decide (a ≤ b)))
    | .gtr => k = k' ∧ K (.bool (decide (b < a)))
    | .geq => k = k' ∧ K (.bool (decide (b ≤ a)))
  | .bool a, .bool b =>
    match op with
    | .eql => (tI P t).d = .bool ∧ K (.bool (a == b))
    | .neq => (tI P t).d = .bool ∧ K (.bool (!(a == b)))
    | _ => False
  | .str a, .str b =>
    match op with
    | .add => a.length + b.length ≤ 9223372036854775807 ∧ K (.str (a ++ b))
    | .eql => K (.bool (a == b))
    | .neq => K (.bool (!(a == b)))
    | _ => False
  | .agg xs, .agg ys =>
    match op with
    | .eql => ∃ is js, intsOf xs = some is ∧ intsOf ys = some js ∧ is.length = js.length ∧ AggEq P t is.length ∧ K (.bool (decide (is = js)))
    | .neq => ∃ is js, intsOf xs = some is ∧ intsOf ys = some js ∧ is.length = js.length ∧ AggEq P t is.length ∧ K (.bool (!decide (is = js)))
    | _ => False
  | _, _ => False

def ldQ (ti : TI) (cells : List D) (off : Nat) (K : D → Prop) : Prop :=
  match ti.d with
  | .struct _ => off + ti.size ≤ cells.length ∧ K (.agg ((cells.drop off).take ti.size))
  | .other => False
  | _ => off < cells.length ∧ K (cells.getD off .any)

def RowLen (rows : List (List D)) (s : Nat) : Prop := ∀ r ∈ rows, r.length = s

def rowsOf (M : Nat → Option Ent) : D → Option (List (List D))
  | .sl rows => some rows
  | .nl => some []
  | .fs id => match M id with | some (.row rows) => some rows | _ => none
  | _ => none

/-- the bytes that rows of one byte each hold -/
def bytesOf : List (List D) → Option (List UInt8)
  | [] => some []
  | [.int .u8 n] :: r => (bytesOf r).map (UInt8.ofNat n.toNat :: ·)
  | _ => none

def boundQ (ρ : Operand → D) (x : Option Operand) (dflt : Nat) (K : Nat → Prop) : Prop :=
  match x with
  | none => K dflt
  | some o => match ρ o with | .int _ n => 0 ≤ n ∧ K n.toNat | _ => False

/-- a value of one cell -/
def one : D → Bool
  | .int .. | .bool _ | .str _ | .nl | .ptr .. | .fs _ | .sl _ | .ep .. => true
  | _ => false
def flat : D → Option (List D)
  | .agg cs => some cs
  | .int k n => some [.int k n]
  | .bool b => some [.bool b]
  | .str s => some [.str s]
  | .nl => some [.nl]
  | .ptr id i off => some [.ptr id i off]
  | .fs id => some [.fs id]
  | .sl rows => some [.sl rows]
  | .ep row off => some [.ep row off]
  | _ => none
def lay (cells : List D) (off : Nat) (cs : List D) : List D := cells.take off ++ cs ++ cells.drop (off + cs.length)
/-- a struct's cells with some parts laid over them -/
def fillQ (places : Nat → Option (Nat × Nat)) : List D → List (Nat × D) → (List D → Prop) → Prop
  | cells, [], K => K cells
  | cells, (i, d) :: rest, K =>
    match places i, flat d with
    | some (off, size), some cs => cs.length = size ∧ off + size ≤ cells.length ∧ fillQ places (lay cells off cs) rest K
    | _, _ => False

def qv (P : Program) (M : Nat → Option Ent) (ρ : Operand → D) (K : D → Prop) : Op → Prop
  | .move x => K (ρ x)
  | .assign x => K (ρ x)
  | .pick c a b => match ρ c with | .bool t => K (if t then ρ a else ρ b) | _ => False
  | .unOp .not _ x => match ρ x with | .bool b => K (.bool (!b)) | _ => False
  | .unOp .neg _ x => match ρ x with | .int k n => K (.int k (k.wrap (0 - n))) | _ => False
  | .binOp op t x y _ => binQ P t op (ρ x) (ρ y) K
  | .convert src dst x =>
    match (tI P src).d, (tI P dst).d, ρ x with
    | .int _, .int k, .int _ n => K (.int k (k.wrap n))
    | .str, .str, .str s => K (.str s)
    | .slice e _ _ _, .str, d => (tI P e).d = .int .u8 ∧ ∃ rows s, rowsOf M d = some rows ∧ bytesOf rows = some s ∧ K (.str s)
    | _, _, _ => False
  | .load t x =>
    match ρ x with
    | .ptr id i off =>
      match M id with
      | some (.box cells) => i = 0 ∧ ldQ (tI P t) cells off K
      | some (.row rows) => i < rows.length ∧ ldQ (tI P t) (rows.getD i []) off K
      | none => False
    | .ep row off => ldQ (tI P t) row off K
    | _ => False
  | .fieldAddr s x f =>
    match (tI P s).d, ρ x with
    | .struct fs, .ptr id i off => f < fs.length ∧ (fs.getD f (0, 0)).2 ≠ 0 ∧ K (.ptr id i (off + (fs.getD f (0, 0)).1))
    | .struct fs, .ep row off => f < fs.length ∧ (fs.getD f (0, 0)).2 ≠ 0 ∧ K (.ep row (off + (fs.getD f (0, 0)).1))
    | _, _ => False
  | .indexAddr t x i =>
    match (tI P t).d, ρ x, ρ i with
    | .slice _ es _ _, .sl rows, .int _ n => es ≠ 0 ∧ 0 ≤ n ∧ n.toNat < rows.length ∧ (rows.getD n.toNat []).length = es ∧ K (.ep (rows.getD n.toNat []) 0)
    | .slice _ es _ _, .fs id, .int _ n => ∃ rows, M id = some (.row rows) ∧ es ≠ 0 ∧ 0 ≤ n ∧ n.toNat < rows.length ∧ (rows.getD n.toNat []).length = es ∧ K (.ptr id n.toNat 0)
    | _, _, _ => False
  | .index t x i =>
    match (tI P t).d, ρ x, ρ i with
    | .str, .str s, .int _ n => 0 ≤ n ∧ n.toNat < s.length ∧ K (.int .u8 (s.getD n.toNat 0).toNat)
    | _, _, _ => False
  | .extract x i => match ρ x with | .tup ds => i < ds.length ∧ K (ds.getD i .any) | _ => False
  | .slice t x lo hi none =>
    match (tI P t).d, ρ x with
    | .slice _ es _ _, .sl rows => es ≠ 0 ∧ RowLen rows es ∧ boundQ ρ lo 0 fun l => boundQ ρ hi rows.length fun h => l ≤ h ∧ h ≤ rows.length ∧ K (.sl ((rows.take h).drop l))
    | _, _ => False
  | .build t parts =>
    match (tI P t).d with
    | .struct fs => fs.all (fun f => f.2 != 0) = true ∧ (tI P t).zero ≠ [] ∧ fillQ (fs[·]?) (tI P t).zero (parts.toList.map fun p => (p.1, ρ p.2)) fun cells => K (.agg cells)
    | _ => False
  | .call { callee := .builtin .len, args := args, argTypes := ts } =>
    match args.toList, ts.toList with
    | [x], [t] =>
      match (tI P t).d, ρ x with
      | .str, .str s => K (.int .i64 s.length)
      | .slice .., d => ∃ rows, rowsOf M d = some rows ∧ K (.int .i64 rows.length)
      | _, _ => False
    | _, _ => False
  | .call { callee := .builtin .min, args := args, .. } =>
    match args.toList with
    | [x, y] => match ρ x, ρ y with | .int k a, .int _ b => K (.int k (if b < a then b else a)) | _, _ => False
    | _ => False
  | .call { callee := .builtin .max, args := args, .. } =>
    match args.toList with
    | [x, y] => match ρ x, ρ y with | .int k a, .int _ b => K (.int k (if a < b then b else a)) | _, _ => False
    | _ => False
  | _ => False


section
variable {B0 : Nat} {X I0 : Nat → Prop} {w0 : World} {n : Nat} {Im : Nat → Prop} {β : Nat → RowG} {σ : Nat → D} {M : Nat → Option Ent} {a : Act} {w : World} {P : Program}

theorem Rv_cD (v : Value) : Rv w Im β M (cD v) v := by
  unfold cD
  split <;> simp [Rv, Rc]

theorem StG.ev (h : StG B0 X I0 w0 n Im β σ M a w) (x : Operand) : Rv w Im β M (ev σ x) (a.eval x) := by
  cases x with
  | tmp t =>
    simp only [Go.Proofs.Ytelolknpcmjdeaa.ev, Act.eval]
    rcases Nat.lt_or_ge t n with ht | ht
    · exact h.slots t ht
    · rcases h.hi t ht with e | e
      · rw [e]; simp [Rv, Rc, h.size, ht]
      · rw [e]; simp [Rv, Rc]
  | const v => exact Rv_cD v
  | global g => simp [Go.Proofs.Ytelolknpcmjdeaa.ev, Rv, Rc]
  | func f => simp [Go.Proofs.Ytelolknpcmjdeaa.ev, Rv, Rc]

theorem tI_int {t : TypeId} {k : IntKind} (h : (tI P t).d = .int k) : P.underlying t = some (.int k) := by
  simp only [tI] at h
  split at h <;> simp_all
theorem tI_bool {t : TypeId} (h : (tI P t).d = .bool) : P.underlying t = some .bool := by
  simp only [tI] at h
  split at h <;> simp_all
theorem tI_str {t : TypeId} (h : (tI P t).d = .str) : P.underlying t = some .string := by
  simp only [tI] at h
  split at h <;> simp_all
theorem tI_slice {t e : TypeId} {es eb : Nat} {ez : List D} (h : (tI P t).d = .slice e es eb ez) :
    P.underlying t = some (.slice e) ∧ es = ((P.info? e).map (·.size)).getD 0 ∧ eb = ((P.info? e).map (·.bytes)).getD 0 ∧ ez = zerosOf P e := by
  simp only [tI] at h
  split at h <;> simp_all
  obtain ⟨rfl, rfl, rfl, rfl⟩ := h
  exact ⟨rfl, rfl, rfl⟩
theorem tI_struct {t : TypeId} {fs : List (Nat × Nat)} (h : (tI P t).d = .struct fs) :
    ∃ fl, P.underlying t = some (.struct fl) ∧ fs = fl.toList.map fun f => (f.offset, ((P.info? f.type).map (·.size)).getD 0) := by
  simp only [tI] at h
  split at h <;> simp_all

theorem Rv_ints : ∀ (cs : List D) (is : List Int) (vs : List Value), intsOf cs = some is → RvL w Im β M cs vs → vs = is.map (Value.int .i64)
  | [], is, vs, h, hv => by simp [intsOf] at h; subst h; simpa [RvL] using hv
  | d :: cs, is, vs, h, hv => by
    simp only [RvL] at hv
    obtain ⟨v, r, rfl, h1, h2⟩ := hv
    unfold intsOf at h
    split at h
    · rename_i e; cases e
    · rename_i nn r' e
      injection e with e1 e2
      subst e1 e2
      cases hi : intsOf cs with
      | none => rw [hi] at h; simp at h
      | some l =>
        rw [hi] at h
        simp at h
        subst h
        simp only [Rv, Rc] at h1
        subst h1
        simp [Rv_ints cs l r hi h2]
    · cases h

theorem bin_sound {t : TypeId} {op : BinOp} {x y : D} {u v : Value} {ox oy : Operand} {K : D → Prop} (hx : Rv w Im β M x u) (hy : Rv w Im β M y v) (hq : binQ P t op x y K) :
    ∃ r d, (do eqGuard op t ox oy u v; binOp op t u v).run P w = .ok r w ∧ Rv w Im β M d r ∧ K d := by
  unfold binQ at hq
  split at hq
  · rename_i k i k' j
    simp only [Rv, Rc] at hx hy
    subst hx hy
    have hg : ∀ o, (eqGuard o t ox oy (.int k i) (.int k' j)).run P w = .ok () w := by
      intro o; unfold eqGuard; cases o <;> rfl
    have key : ∀ r, (binOp op t (.int k i) (.int k' j)).run P w = .ok r w → (do eqGuard op t ox oy (.int k i) (.int k' j); binOp op t (.int k i) (.int k' j)).run P w = .ok r w := by
      intro r hr; rw [Sem.run_bind, hg]; exact hr
    cases op <;> simp only [] at hq
    all_goals first
      | (obtain ⟨h0, h1⟩ := hq; refine ⟨_, _, key _ (by simp [binOp, Op.shift, Int.not_lt.2 h0]; rfl), ?_, h1⟩; simp [Rv, Rc])
      | (obtain ⟨rfl, h0, h1⟩ := hq; refine ⟨_, _, key _ (by simp [binOp, Op.intDiv, h0]; rfl), ?_, h1⟩; simp [Rv, Rc])
      | (obtain ⟨rfl, h1⟩ := hq; refine ⟨_, _, key _ (by simp [binOp, Op.intArith, Op.intBits, Op.intCmp]; rfl), ?_, h1⟩; simp [Rv, Rc])
      | exact hq.elim
  · rename_i i j
    simp only [Rv, Rc] at hx hy
    subst hx hy
    cases op <;> simp only [] at hq
    all_goals first
      | exact hq.elim
      | (obtain ⟨h0, h1⟩ := hq
         have ht := tI_bool h0
         refine ⟨.bool (i == j), _, ?_, ?_, h1⟩
         · simp [eqGuard, binOp, Op.equal, Op.maxDepth, run_equalIn_bool' w _ t i j ht]
         · simp [Rv, Rc])
      | (obtain ⟨h0, h1⟩ := hq
         have ht := tI_bool h0
         refine ⟨.bool (!(i == j)), _, ?_, ?_, h1⟩
         · simp [eqGuard, binOp, Op.equal, Op.maxDepth, run_equalIn_bool' w _ t i j ht]
         · simp [Rv, Rc])
  · rename_i i j
    simp only [Rv, Rc] at hx hy
    subst hx hy
    have e1 : ∀ l : List UInt8, (ByteArray.mk l.toArray).toList = l := fun l => by
      rw [ByteArray.toList_eq]
    cases op <;> simp only [] at hq
    all_goals first
      | exact hq.elim
      | (obtain ⟨h0, h1⟩ := hq
         refine ⟨.string ⟨(i ++ j).toArray⟩, _, ?_, ?_, h1⟩
         · have : ¬ (((ByteArray.mk i.toArray).size + (ByteArray.mk j.toArray).size : Nat) : Int) > IntKind.i64.max := by
             simp [ByteArray.size, IntKind.max, IntKind.signed, IntKind.bits]; omega
           simp only [eqGuard, binOp, Op.stringOp, if_neg this]
           simp
           exact ByteArray.ext (by simp)
         · simp [Rv, Rc])
      | (refine ⟨.bool (i == j), _, ?_, ?_, hq⟩
         · simp [eqGuard, binOp, Op.stringOp, e1]
         · simp [Rv, Rc])
      | (refine ⟨.bool (!(i == j)), _, ?_, ?_, hq⟩
         · simp [eqGuard, binOp, Op.stringOp, e1]
         · simp [Rv, Rc])
  · rename_i xs ys
    cases op <;> simp only [] at hq
    all_goals first
      | exact hq.elim
      | (obtain ⟨is, js, h1, h2, h3, h4, h5⟩ := hq
         simp only [Rv] at hx hy
         obtain ⟨us, rfl, hus⟩ := hx
         obtain ⟨vs, rfl, hvs⟩ := hy
         have := Rv_ints _ _ _ h1 hus; subst this
         have := Rv_ints _ _ _ h2 hvs; subst this
         first
           | exact ⟨_, _, (h4 w ox oy is js rfl h3.symm).1, by simp [Rv, Rc], h5⟩
           | exact ⟨_, _, (h4 w ox oy is js rfl h3.symm).2, by simp [Rv, Rc], h5⟩)
  · exact hq.elim

/-- these values lie there -/
def CellsAt (w : World) (b o : Nat) (cs : List Value) : Prop := ∀ j v, cs[j]? = some v → w.cell? ⟨b, o + j, none⟩ = some v
theorem CellsAt.drop {b o : Nat} {cs : List Value} (h : CellsAt w b o cs) (k : Nat) : CellsAt w b (o + k) (cs.drop k) := fun j v hj => by
  rw [List.getElem?_drop] at hj
  have := h _ v hj
  rwa [← Nat.add_assoc] at this
theorem CellsAt.take {b o : Nat} {cs : List Value} (h : CellsAt w b o cs) (k : Nat) : CellsAt w b o (cs.take k) := fun j v hj => by
  rw [List.getElem?_take] at hj
  split at hj
  · exact h j v hj
  · cases hj
theorem CellsAt.of_heap {b : Nat} {cur : Array Value} {e : TypeId} {fz : Nat × Nat} (h : w.heap[b]? = some (.cells cur e fz)) : CellsAt w b 0 cur.toList := fun j v hj => by
  rw [cell_of_row w b _ cur e fz h]
  simpa using hj

theorem info_of_size {t : TypeId} (h : ((P.info? t).map (·.size)).getD 0 ≠ 0) : ∃ i, P.info? t = some i ∧ ((P.info? t).map (·.size)).getD 0 = i.size := by
  cases hi : P.info? t with
  | none => rw [hi] at h; simp at h
  | some i => exact ⟨i, rfl, by simp⟩
theorem info_of_und {t : TypeId} {d : TypeDesc} (h : P.underlying t = some d) : ∃ i, P.info? t = some i := by
  cases hi : P.info? t with
  | none => simp [Program.underlying, hi] at h
  | some i => exact ⟨i, rfl⟩

theorem ld_sound {t : TypeId} {b o off : Nat} {cells : List D} {cs : List Value} {K : D → Prop} (hc : CellsAt w b o cs) (hv : RvL w Im β M cells cs) (hq : ldQ (tI P t) cells off K) :
    ∃ v d, (loadVar t ⟨b, o + off, none⟩).run P w = .ok v w ∧ Rv w Im β M d v ∧ K d := by
  have hlen := RvL_length _ _ hv
  have hagg : ∀ {d : TypeDesc}, P.underlying t = some d → (isAgg t).run P w = .ok (match d with | .struct _ | .array _ _ => true | _ => false) w := by
    intro d hd
    simp only [isAgg, Sem.run_bind, run_underlying hd, Result.andThen_ok]
    cases d <;> rfl
  have one : ∀ {d : TypeDesc}, P.underlying t = some d → (match d with | .struct _ | .array _ _ => true | _ => false) = false → off < cells.length ∧ K (cells.getD off .any) →
      ∃ v d, (loadVar t ⟨b, o + off, none⟩).run P w = .ok v w ∧ Rv w Im β M d v ∧ K d := by
    intro d hd hf ⟨h1, h2⟩
    have hcell : cells[off]? = some (cells.getD off .any) := by simp [List.getD, h1]
    obtain ⟨c, h3, h4⟩ := RvL_get _ _ off _ hv hcell
    have h5 := hc off c h3
    refine ⟨c, _, ?_, h4, h2⟩
    simp only [loadVar, Sem.run_bind, hagg hd, hf, Result.andThen_ok]
    simp [load, Sem.run, h5]
  unfold ldQ at hq
  split at hq
  · rename_i fs hd
    obtain ⟨h1, h2⟩ := hq
    obtain ⟨fl, hu, _⟩ := tI_struct hd
    obtain ⟨i, hi⟩ := info_of_und hu
    have hsz : (tI P t).size = i.size := by simp [tI, hi]
    have hl2 : ((cs.drop off).take (tI P t).size).length = i.size := by
      rw [List.length_take, List.length_drop, hlen]; omega
    have hrun := run_loadCells_list (P := P) w ⟨b, o + off, none⟩ ((cs.drop off).take (tI P t).size) (fun j v hj => by
      rw [Addr.add_lit]; exact (hc.drop off).take _ j v hj)
    rw [hl2] at hrun
    refine ⟨.agg ((cs.drop off).take (tI P t).size).toArray, _, ?_, ?_, h2⟩
    · simp only [loadVar, Sem.run_bind, hagg hu, Result.andThen_ok]
      simp [Go.sizeOf, typeInfo, program, Sem.run, hi, hrun]
    · simp only [Rv]
      exact ⟨_, rfl, RvL_take _ _ _ (RvL_drop _ _ _ hv)⟩
  · exact hq.elim
  · rename_i hs ho
    cases hd : (tI P t).d with
    | int k => exact one (tI_int hd) rfl hq
    | bool => exact one (tI_bool hd) rfl hq
    | str => exact one (tI_str hd) rfl hq
    | struct fs => exact absurd hd (hs fs)
    | slice e es eb ez => exact one (tI_slice hd).1 rfl hq
    | other => exact absurd hd ho

theorem RcRowsL_at : ∀ (rs : List (List D)) (s : Nat) (l : List Value) (i : Nat), RcRowsL w Im rs s l → i < rs.length → RcL w Im (rs.getD i []) ((l.drop (i * s)).take s) ∧ (rs.getD i []).length = s
  | [], _, _, _, _, h => by simp at h
  | r :: rs, s, l, 0, h, _ => by
    simp only [RcRowsL] at h
    obtain ⟨c, rest, rfl, h1, h2, h3⟩ := h
    have : (c ++ rest).take s = c := by rw [← h1]; simp
    simp only [Nat.zero_mul, List.drop_zero, List.getD_cons_zero, this]
    exact ⟨h2, by rw [← RcL_length _ _ h2]; exact h1⟩
  | r :: rs, s, l, i + 1, h, hi => by
    simp only [RcRowsL] at h
    obtain ⟨c, rest, rfl, h1, h2, h3⟩ := h
    have ih := RcRowsL_at rs s rest i h3 (by simpa using hi)
    have e : (c ++ rest).drop ((i + 1) * s) = rest.drop (i * s) := by
      rw [List.drop_append]
      have : (i + 1) * s - c.length = i * s := by rw [h1, Nat.add_mul]; omega
      rw [this, List.drop_eq_nil_of_le (by rw [h1, Nat.add_mul]; omega), List.nil_append]
    rw [e]
    simpa using ih

/-- the rows of a slice value, as they lie in memory -/
theorem rows_at (h : StG B0 X I0 w0 n Im β σ M a w) {d : D} {v : Value} {rows : List (List D)} (hd : Rv w Im β M d v) (hr : rowsOf M d = some rows) :
    ∃ ad cap, v = .slice ad rows.length cap ∧ rows.length ≤ cap ∧ (rows = [] ∨ ∃ b o s cs, ad = some ⟨b, o, none⟩ ∧ RowLen rows s ∧ RcL w Im rows.flatten cs ∧ cs.length = rows.length * s ∧ (∀ v ∈ cs, v.oneCell' = true) ∧ CellsAt w b o cs) := by
  cases d with
  | sl rs =>
    simp only [rowsOf, Option.some.injEq] at hr
    subst hr
    simp only [Rv, Rc] at hd
    obtain ⟨ad, cap, rfl, h1, h2⟩ := hd
    refine ⟨ad, cap, rfl, h1, h2.imp id ?_⟩
    rintro ⟨b, o, s, rfl, _, h3⟩
    obtain ⟨cs, h4, h5, h6, h7⟩ := RcRows_list _ _ _ _ h3
    refine ⟨b, o, s, cs, rfl, ?_, h4, h5, h6, h7⟩
    intro r hr
    obtain ⟨i, hi⟩ := List.mem_iff_getElem?.1 hr
    exact (RcRows_at _ _ _ _ i r h3 hi).1
  | nl =>
    simp only [rowsOf, Option.some.injEq] at hr
    subst hr
    simp only [Rv, Rc] at hd
    exact ⟨none, 0, by simpa using hd, by simp, .inl rfl⟩
  | fs id =>
    simp only [rowsOf] at hr
    cases hM : M id with
    | none => rw [hM] at hr; cases hr
    | some e =>
      cases e with
      | box cells => rw [hM] at hr; cases hr
      | row rs =>
        rw [hM] at hr
        simp only [Option.some.injEq] at hr
        subst hr
        simp only [Rv, hM, Option.bind_some, Ent.len, Option.some.injEq] at hd
        obtain ⟨m, rfl, rfl⟩ := hd
        have hok := h.tab id _ hM
        simp only [EntOk] at hok
        rcases hok with ⟨h1, rfl⟩ | ⟨h1, h2, h3, h4, cur, e, h5, h6, h7, h8⟩
        · exact ⟨none, 0, by simp [RowG.val, h1], by simp, .inl rfl⟩
        · refine ⟨some ⟨(β id).blk, 0, none⟩, (β id).cap, by simp [RowG.val, h1], h3, ?_⟩
          cases hrs : rs with
          | nil => exact .inl rfl
          | cons r0 rt =>
            refine .inr ⟨(β id).blk, 0, (β id).sz, cur.toList.take (rs.length * (β id).sz), rfl, ?_, ?_, ?_, ?_, ?_⟩
            · rw [← hrs]
              intro r hr
              obtain ⟨i, hi⟩ := List.mem_iff_getElem?.1 hr
              have hilt : i < rs.length := (List.getElem?_eq_some_iff.1 hi).1
              have := (RcRowsL_at _ _ _ i h8 hilt).2
              rwa [show rs.getD i [] = r by simp [List.getD, hi]] at this
            · rw [← hrs]
              clear hrs h3 h4 h5 h6 h7 hM
              generalize cur.toList = l at h8
              induction rs generalizing l with
              | nil => simp [RcL]
              | cons r rs ih =>
                simp only [RcRowsL] at h8
                obtain ⟨c, rest, rfl, e1, e2, e3⟩ := h8
                simp only [List.flatten_cons, List.length_cons]
                have : (c ++ rest).take ((rs.length + 1) * (β id).sz) = c ++ rest.take (rs.length * (β id).sz) := by
                  rw [List.take_append, e1]
                  have e4 : (rs.length + 1) * (β id).sz - (β id).sz = rs.length * (β id).sz := by rw [Nat.add_mul]; omega
                  rw [e4, List.take_of_length_le (by rw [e1, Nat.add_mul]; omega)]
                rw [this]
                exact RcL_append _ _ _ _ e2 (ih rest e3)
            · have e0 : cur.toList.length = (β id).cap * (β id).sz := by simpa using h6
              rw [← hrs, List.length_take, e0]
              exact Nat.min_eq_left (Nat.mul_le_mul_right _ h3)
            · exact fun v hv => h7 v (List.mem_of_mem_take hv)
            · exact (CellsAt.of_heap h5).take _
  | _ => simp [rowsOf] at hr

theorem bytes_vals : ∀ (rows : List (List D)) (l : List UInt8) (cs : List Value), bytesOf rows = some l → RcL w Im rows.flatten cs → ∃ ns : List Int, cs = ns.map (Value.int .u8) ∧ ns.map (fun n => UInt8.ofNat n.toNat) = l ∧ ns.length = rows.length
  | [], l, cs, h, hv => by
    simp [bytesOf] at h; subst h
    simp [RcL] at hv; subst hv
    exact ⟨[], rfl, rfl, rfl⟩
  | r :: rows, l, cs, h, hv => by
    unfold bytesOf at h
    split at h
    · rename_i e; cases e
    · rename_i nn r' e
      injection e with e1 e2
      subst e1 e2
      cases hi : bytesOf rows with
      | none => rw [hi] at h; simp at h
      | some l' =>
        rw [hi] at h
        simp at h
        subst h
        simp only [List.flatten_cons, List.cons_append, List.nil_append, RcL] at hv
        obtain ⟨v, r, rfl, h1, h2⟩ := hv
        simp only [Rc] at h1
        subst h1
        obtain ⟨ns, rfl, h3, h4⟩ := bytes_vals rows l' r hi h2
        exact ⟨nn :: ns, rfl, by simp [h3], by simp [h4]⟩
    · cases h

theorem foldl_push (l : List UInt8) (s : ByteArray) : l.foldl (fun r n => r.push n) s = s ++ ⟨l.toArray⟩ := by
  induction l generalizing s with
  | nil => exact ByteArray.ext (by simp)
  | cons x l ih =>
    simp only [List.foldl_cons, ih]
    exact ByteArray.ext (by simp [ByteArray.push])

theorem one_oneCell {d : D} {v : Value} (hv : Rv w Im β M d v) (ho : one d = true) : v.oneCell' = true := by
  cases d with
  | int => simp only [Rv, Rc] at hv; subst hv; rfl
  | bool => simp only [Rv, Rc] at hv; subst hv; rfl
  | str => simp only [Rv, Rc] at hv; subst hv; rfl
  | nl => simp only [Rv, Rc] at hv; subst hv; rfl
  | ptr => simp only [Rv] at hv; obtain ⟨_, _, rfl⟩ := hv; rfl
  | fs => simp only [Rv] at hv; obtain ⟨_, _, rfl⟩ := hv; unfold RowG.val; split <;> rfl
  | sl => simp only [Rv, Rc] at hv; obtain ⟨_, _, rfl, _⟩ := hv; rfl
  | ep => simp only [Rv, Rc] at hv; obtain ⟨_, _, rfl, _⟩ := hv; rfl
  | _ => simp [one] at ho
theorem cells_one {v : Value} (h : v.oneCell' = true) : v.cells = #[v] := by
  cases v <;> first | rfl | simp [Value.oneCell'] at h

theorem flat_cells {d : D} {v : Value} {cs : List D} (hv : Rv w Im β M d v) (hf : flat d = some cs) : RvL w Im β M cs v.cells.toList := by
  cases d with
  | agg xs =>
    simp only [flat, Option.some.injEq] at hf
    subst hf
    simp only [Rv] at hv
    obtain ⟨a, rfl, hv⟩ := hv
    simpa [Value.cells] using hv
  | any => simp [flat] at hf
  | nov => simp [flat] at hf
  | tup => simp [flat] at hf
  | _ =>
    simp only [flat, Option.some.injEq] at hf
    subst hf
    rw [cells_one (one_oneCell hv rfl)]
    simp only [RvL]
    exact ⟨v, [], rfl, hv, rfl⟩

theorem foldl_lay : ∀ (vs : List Value) (k : Nat) (off : Nat) (cells : Array Value), off + k + vs.length ≤ cells.size →
    ((vs.zipIdx k).foldl (fun cs (x : Value × Nat) => cs.setIfInBounds (off + x.2) x.1) cells).toList = cells.toList.take (off + k) ++ vs ++ cells.toList.drop (off + k + vs.length)
  | [], k, off, cells, _ => by simp
  | v :: vs, k, off, cells, h => by
    simp only [List.zipIdx_cons, List.foldl_cons]
    rw [foldl_lay vs (k + 1) off _ (by simp at h ⊢; omega)]
    have e := list_seg_step cells.toList (off + k) v vs (by simp at h ⊢; omega)
    simpa [Array.toList_setIfInBounds, Nat.add_assoc] using e

theorem fill_sound (h : StG B0 X I0 w0 n Im β σ M a w) {fs : List (Nat × Nat)} : ∀ (ps : List (Nat × Operand)) (cells : List D) (cs : List Value) (KK : List D → Prop), RvL w Im β M cells cs → fillQ (fs[·]?) cells (ps.map fun p => (p.1, ev σ p.2)) KK →
    ∃ cells' cs', Instr.fill (fs.toArray[·]?) cs.toArray (ps.map fun p => (p.1, a.eval p.2)) = some (List.toArray cs') ∧ RvL w Im β M cells' cs' ∧ KK cells'
  | [], cells, cs, KK, hc, hf => by
    simp only [List.map_nil, fillQ] at hf
    exact ⟨cells, cs, by simp [Instr.fill], hc, hf⟩
  | (i, x) :: ps, cells, cs, KK, hc, hf => by
    simp only [List.map_cons, fillQ] at hf
    split at hf
    · rename_i off size ds hp hfl
      obtain ⟨h1, h2, h3⟩ := hf
      have hv := flat_cells (h.ev x) hfl
      have hl := RvL_length _ _ hv
      have hcl := RvL_length _ _ hc
      have hsz : (a.eval x).cells.size = size := by rw [← h1, ← hl]; simp
      have hnew : RvL w Im β M (lay cells off ds) (cs.take off ++ (a.eval x).cells.toList ++ cs.drop (off + (a.eval x).cells.toList.length)) := by
        unfold lay
        rw [hl]
        exact RvL_append _ _ _ _ (RvL_append _ _ _ _ (RvL_take _ _ _ hc) hv) (RvL_drop _ _ _ hc)
      obtain ⟨cells', cs', h4, h5, h6⟩ := fill_sound h ps _ _ KK hnew h3
      refine ⟨cells', cs', ?_, h5, h6⟩
      rw [← h4]
      have hpl : fs.toArray[i]? = some (off, size) := by simpa using hp
      simp only [List.map_cons, Instr.fill, hpl]
      have hcond : (decide ((a.eval x).cells.size ≠ size) || decide (off + (a.eval x).cells.size > cs.toArray.size)) = false := by
        simp [hsz]; omega
      rw [if_neg (by rw [hcond]; simp)]
      congr 1
      apply Array.ext'
      have := foldl_lay (a.eval x).cells.toList 0 off cs.toArray (by simp; omega)
      rw [← Array.foldl_toList, Array.toList_zipIdx]
      simpa using this
    · exact hf.elim

theorem qv_sound (h : StG B0 X I0 w0 n Im β σ M a w) {o : Oper} {K : D → Prop} (hq : qv P M (ev σ) K o.op) :
    ∃ v d, (execOp a.eval o).run P w = .ok (.value v) w ∧ Rv w Im β M d v ∧ K d := by
  obtain ⟨dst, op, type, pos, after, guard⟩ := o
  simp only at hq
  have hev := fun x => h.ev x
  unfold qv at hq
  split at hq
  case h_1 x => exact ⟨_, _, by simp [execOp], hev x, hq⟩
  case h_2 x => exact ⟨_, _, by simp [execOp], hev x, hq⟩
  case h_3 c x y =>
    split at hq
    · rename_i t hc
      have h1 := hev c
      rw [hc] at h1
      simp only [Rv, Rc] at h1
      refine ⟨if t then a.eval x else a.eval y, _, by simp [execOp, h1, asBool], ?_, hq⟩
      cases t
      · simpa using hev y
      · simpa using hev x
    · exact hq.elim
  case h_4 t x =>
    split at hq
    · rename_i b hc
      have h1 := hev x
      rw [hc] at h1
      simp only [Rv, Rc] at h1
      exact ⟨_, _, by simp [execOp, h1, Op.unary]; rfl, by simp [Rv, Rc], hq⟩
    · exact hq.elim
  case h_5 t x =>
    split at hq
    · rename_i k nn hc
      have h1 := hev x
      rw [hc] at h1
      simp only [Rv, Rc] at h1
      exact ⟨_, _, by simp [execOp, h1, Op.unary, Op.intArith]; rfl, by simp [Rv, Rc], hq⟩
    · exact hq.elim
  case h_6 op t x y t' =>
    obtain ⟨r, d, h1, h2, h3⟩ := bin_sound (ox := x) (oy := y) (hev x) (hev y) hq
    refine ⟨r, d, ?_, h2, h3⟩
    simp only [execOp]
    rw [Sem.run_bind, h1]
    rfl
  case h_7 src dst' x =>
    split at hq
    · rename_i k0 k k1 nn hs hd hc
      have h1 := hev x
      rw [hc] at h1
      simp only [Rv, Rc] at h1
      refine ⟨.int k (k.wrap nn), _, ?_, by simp [Rv, Rc], hq⟩
      simp [execOp, h1, convert, run_underlying (tI_int hs), run_underlying (tI_int hd), Conv.intToInt]
    · rename_i s hs hd hc
      have h1 := hev x
      rw [hc] at h1
      simp only [Rv, Rc] at h1
      refine ⟨_, _, ?_, by simp [Rv, Rc]; rfl, hq⟩
      simp [execOp, h1, convert, run_underlying (tI_str hs), run_underlying (tI_str hd)]
    · rename_i e es eb ez hs hd
      obtain ⟨he, rows, s, h2, h3, h4⟩ := hq
      obtain ⟨ad, cap, h5, h6, h7⟩ := rows_at h (hev x) h2
      have hrun := run_convert_bytes_string (P := P) w src dst' e ad rows.length cap (tI_slice hs).1 (tI_int he) (tI_str hd)
      rcases h7 with rfl | ⟨b, o, sz, cs, rfl, h8, h9, h10, h11, h12⟩
      · simp [bytesOf] at h3
        subst h3
        refine ⟨.string ⟨#[]⟩, .str [], ?_, by simp [Rv, Rc], h4⟩
        simp only [execOp, h5, Sem.run_bind, hrun]
        cases ad with
        | none => simp [Conv.bytesToString]; rfl
        | some ad =>
          have := run_bytesToString (P := P) w ad 0 cap [] (by simp [loadCells, loadCellsFrom])
          simp only [List.length_nil, this]
          rfl
      · obtain ⟨ns, rfl, h13, h14⟩ := bytes_vals rows s cs h3 h9
        have hl := run_loadCells_list (P := P) w ⟨b, o, none⟩ (ns.map (Value.int .u8)) (fun j v hj => by rw [Addr.add_lit]; exact h12 j v hj)
        rw [List.length_map, h14] at hl
        have := run_bytesToString (P := P) w ⟨b, o, none⟩ rows.length cap ns hl
        refine ⟨.string ⟨s.toArray⟩, .str s, ?_, by simp [Rv, Rc], h4⟩
        simp only [execOp, h5, Sem.run_bind, hrun, this, Result.andThen_ok]
        have e1 : ns.foldl (fun r n => r.push (UInt8.ofNat n.toNat)) ByteArray.empty = ⟨s.toArray⟩ := by
          have := foldl_push (ns.map fun n => UInt8.ofNat n.toNat) ByteArray.empty
          rw [List.foldl_map] at this
          rw [this, h13]
          exact ByteArray.ext (by simp)
        rw [e1]
        rfl
    · exact hq.elim
  case h_8 t x =>
    split at hq
    · rename_i id i off hc
      have h1 := hev x
      rw [hc] at h1
      simp only [Rv] at h1
      obtain ⟨hs, hnil, h1⟩ := h1
      split at hq
      · rename_i cells hM
        obtain ⟨rfl, hq⟩ := hq
        have hok := h.tab id _ hM
        simp only [EntOk] at hok
        obtain ⟨_, _, cur, e, h5, _, h7⟩ := hok
        obtain ⟨v, d, h8, h9, h10⟩ := ld_sound (CellsAt.of_heap h5) h7 hq
        refine ⟨v, d, ?_, h9, h10⟩
        have e2 : 0 * (β id).sz + off = 0 + off := by simp
        simp only [execOp, h1, Instr.loadAt, Instr.sureAddr, e2, Sem.run_bind, Sem.run_pure, Result.andThen_ok, h8]
      · rename_i rows hM
        obtain ⟨hi, hq⟩ := hq
        have hok := h.tab id _ hM
        simp only [EntOk] at hok
        rcases hok with ⟨h3, _⟩ | ⟨_, _, _, _, cur, e, h5, _, _, h7⟩
        · rw [hnil] at h3; cases h3
        · have h8 := RcRowsL_at _ _ _ i h7 hi
          have hc : CellsAt w (β id).blk (i * (β id).sz) ((cur.toList.drop (i * (β id).sz)).take (β id).sz) := by
            have := ((CellsAt.of_heap h5).drop (i * (β id).sz)).take (β id).sz
            simpa using this
          obtain ⟨v, d, h9, h10, h11⟩ := ld_sound hc (RvL_of_RcL (β := β) (M := M) _ _ h8.1) hq
          refine ⟨v, d, ?_, h10, h11⟩
          simp only [execOp, h1, Instr.loadAt, Instr.sureAddr, Sem.run_bind, Sem.run_pure, Result.andThen_ok, h9]
      · exact hq.elim
    · rename_i row off hc
      have h1 := hev x
      rw [hc] at h1
      simp only [Rv, Rc] at h1
      obtain ⟨b, o, h1, _, h3⟩ := h1
      obtain ⟨cs, h4, _, h6⟩ := RcRow_list _ _ _ h3
      obtain ⟨v, d, h7, h8, h9⟩ := ld_sound (b := b) (o := o) h6 (RvL_of_RcL (β := β) (M := M) _ _ h4) hq
      refine ⟨v, d, ?_, h8, h9⟩
      simp only [execOp, h1, Instr.loadAt, Instr.sureAddr, Sem.run_bind, Sem.run_pure, Result.andThen_ok, h7]
    · exact hq.elim
  case h_9 s x f =>
    have fld : ∀ {fs : List (Nat × Nat)}, (tI P s).d = .struct fs → f < fs.length → (fs.getD f (0, 0)).2 ≠ 0 → ∀ b o, (Instr.fieldAt s (.pointer (some ⟨b, o, none⟩)) f).run P w = .ok (.pointer (some ⟨b, o + (fs.getD f (0, 0)).1, none⟩)) w := by
      intro fs hd hf hz b o
      obtain ⟨fl, hu, rfl⟩ := tI_struct hd
      have hf' : f < fl.size := by simpa using hf
      have e1 : ((fl.toList.map fun f => (f.offset, ((P.info? f.type).map (·.size)).getD 0)).getD f (0, 0)) = ((fl[f]).offset, ((P.info? (fl[f]).type).map (·.size)).getD 0) := by
        simp [List.getD, hf']
      rw [e1] at hz ⊢
      simp only at hz
      obtain ⟨i, hi, hsz⟩ := info_of_size hz
      have e2 : fl[f]? = some fl[f] := by simp [hf']
      simp only [Instr.fieldAt, Sem.run_bind, run_underlying hu, Result.andThen_ok, e2, Instr.sureAddr, Sem.run_pure, fieldPlace, Go.sizeOf, typeInfo, program]
      rw [hsz] at hz
      simp [Sem.run, hi, hz, Addr.add_lit]
    split at hq
    · rename_i fs id i off hd hc
      obtain ⟨h2, h3, h4⟩ := hq
      have h1 := hev x
      rw [hc] at h1
      simp only [Rv] at h1
      obtain ⟨hs, hnil, h1⟩ := h1
      refine ⟨.pointer (some ⟨(β id).blk, i * (β id).sz + off + (fs.getD f (0, 0)).1, none⟩), _, ?_, ?_, h4⟩
      · simp only [execOp, h1, Sem.run_bind, fld hd h2 h3, Result.andThen_ok]; rfl
      · simp only [Rv]; exact ⟨hs, hnil, by rw [Nat.add_assoc]⟩
    · rename_i fs row off hd hc
      obtain ⟨h2, h3, h4⟩ := hq
      have h1 := hev x
      rw [hc] at h1
      simp only [Rv, Rc] at h1
      obtain ⟨b, o, h1, hb, hr⟩ := h1
      refine ⟨.pointer (some ⟨b, o + off + (fs.getD f (0, 0)).1, none⟩), _, ?_, ?_, h4⟩
      · simp only [execOp, h1, Sem.run_bind, fld hd h2 h3, Result.andThen_ok]; rfl
      · simp only [Rv, Rc]; exact ⟨b, o, by rw [Nat.add_assoc], hb, hr⟩
    · exact hq.elim
  case h_10 t x ix =>
    split at hq
    · rename_i e es eb ez rows k nn hd hc hi
      obtain ⟨hs0, h2, h3, h4, h5⟩ := hq
      have h1 := hev x
      rw [hc] at h1
      simp only [Rv, Rc] at h1
      obtain ⟨ad, cap, h1, _, h6⟩ := h1
      have h7 := hev ix
      rw [hi] at h7
      simp only [Rv, Rc] at h7
      obtain ⟨hu, hes, _, _⟩ := tI_slice hd
      rcases h6 with rfl | ⟨b, o, s, rfl, hb, hr⟩
      · simp at h3
      · have hget : rows[nn.toNat]? = some (rows.getD nn.toNat []) := by simp [List.getD, h3]
        obtain ⟨h8, h9⟩ := RcRows_at _ _ _ _ _ _ hr hget
        have hse : s = es := by rw [← h8]; exact h4
        subst hse
        refine ⟨.pointer (some ⟨b, o + nn.toNat * s, none⟩), _, ?_, ?_, h5⟩
        · have hlt : nn < (rows.length : Int) := by omega
          rw [hes] at hs0
          obtain ⟨i, hi', hsz⟩ := info_of_size hs0
          rw [hsz] at hes
          simp only [execOp, h1, h7, Instr.indexAt, asIntOf, Sem.run_bind, Sem.run_pure, Result.andThen_ok, run_underlying hu, h2, hlt, and_self, if_true]
          simp [Go.sizeOf, typeInfo, program, Sem.run, hi', Addr.add_lit, hes]
        · simp only [Rv, Rc]
          exact ⟨b, o + nn.toNat * s, by simp, hb, h9⟩
    · rename_i e es eb ez id k nn hd hc hi
      obtain ⟨rows, hM, hs0, h2, h3, h4, h5⟩ := hq
      have h1 := hev x
      rw [hc] at h1
      simp only [Rv, hM, Option.bind_some, Ent.len, Option.some.injEq] at h1
      obtain ⟨m, rfl, h1⟩ := h1
      have h7 := hev ix
      rw [hi] at h7
      simp only [Rv, Rc] at h7
      obtain ⟨hu, hes, _, _⟩ := tI_slice hd
      have hok := h.tab id _ hM
      simp only [EntOk] at hok
      rcases hok with ⟨_, rfl⟩ | ⟨hnil, h8, h9, h10, cur, e', h11, h12, h13, h14⟩
      · simp at h3
      · have hse : (β id).sz = es := by rw [← (RcRowsL_at _ _ _ nn.toNat h14 h3).2]; exact h4
        refine ⟨.pointer (some ⟨(β id).blk, nn.toNat * (β id).sz + 0, none⟩), _, ?_, ?_, h5⟩
        · have hlt : nn < (rows.length : Int) := by omega
          rw [hes] at hs0
          obtain ⟨i, hi', hsz⟩ := info_of_size hs0
          rw [hsz] at hes
          simp only [RowG.val, hnil] at h1
          simp only [execOp, h1, h7, Instr.indexAt, asIntOf, Sem.run_bind, Sem.run_pure, Result.andThen_ok, run_underlying hu, h2, hlt, and_self, if_true, Bool.false_eq_true, if_false]
          simp [Go.sizeOf, typeInfo, program, Sem.run, hi', Addr.add_lit, hes, hse]
        · simp [Rv, hM, hnil]
    · exact hq.elim
  case h_11 t x ix =>
    split at hq
    · rename_i s k nn hd hc hi
      obtain ⟨h2, h3, h4⟩ := hq
      have h1 := hev x
      rw [hc] at h1
      simp only [Rv, Rc] at h1
      have h7 := hev ix
      rw [hi] at h7
      simp only [Rv, Rc] at h7
      refine ⟨.int .u8 (s.getD nn.toNat 0).toNat, _, ?_, by simp [Rv, Rc], h4⟩
      have hb : (ByteArray.mk s.toArray)[nn.toNat]? = some (s.getD nn.toNat 0) := by
        have hlt : nn.toNat < (ByteArray.mk s.toArray).size := by simpa [ByteArray.size] using h3
        rw [getElem?_pos (ByteArray.mk s.toArray) nn.toNat hlt]
        congr 1
        simp [ByteArray.getElem_eq_getElem_data, List.getD, h3]
      simp only [execOp, h1, h7, Instr.index, asIntOf, Sem.run_bind, Sem.run_pure, Result.andThen_ok, run_underlying (tI_str hd), h2, if_true, hb]
    · exact hq.elim
  case h_12 x i =>
    split at hq
    · rename_i ds hc
      obtain ⟨h2, h3⟩ := hq
      have h1 := hev x
      rw [hc] at h1
      simp only [Rv] at h1
      obtain ⟨vs, h1, h4⟩ := h1
      obtain ⟨v, h5, h6⟩ := RvL_get _ _ i (ds.getD i .any) h4 (by simp [List.getD, h2])
      refine ⟨v, _, ?_, h6, h3⟩
      simp [execOp, h1, Instr.extract, h5]
    · exact hq.elim
  case h_13 t x lo hi =>
    split at hq
    · rename_i e es eb ez rows hd hc
      obtain ⟨hs0, hrl, hq⟩ := hq
      have h1 := hev x
      rw [hc] at h1
      simp only [Rv, Rc] at h1
      obtain ⟨ad, cap, h1, hcap, h6⟩ := h1
      obtain ⟨hu, hes, _, _⟩ := tI_slice hd
      -- the bounds
      have bd : ∀ {z : Option Operand} {dflt : Nat} {KK : Nat → Prop}, boundQ (Go.Proofs.Ytelolknpcmjdeaa.ev σ) z dflt KK → ∃ m, KK m ∧ ((z = none ∧ m = dflt) ∨ ∃ oz k, z = some oz ∧ a.eval oz = .int k (m : Int)) := by
        intro z dflt KK hz
        unfold boundQ at hz
        split at hz
        · exact ⟨dflt, hz, .inl ⟨rfl, rfl⟩⟩
        · rename_i oz
          split at hz
          · rename_i k nn hzz
            have := hev oz
            rw [hzz] at this
            simp only [Rv, Rc] at this
            exact ⟨nn.toNat, hz.2, .inr ⟨oz, k, rfl, by rw [this, Int.toNat_of_nonneg hz.1]⟩⟩
          · exact hz.elim
      obtain ⟨l, hq, hl⟩ := bd hq
      obtain ⟨hh, ⟨h2, h3, h4⟩, hhi⟩ := bd hq
      have hbounds : (Instr.sliceBounds true rows.length cap (lo.map a.eval) (hi.map a.eval) none).run P w = .ok (l, hh, cap) w := by
        have hhc : (hh : Int) ≤ (cap : Int) := by omega
        have hlh : (l : Int) ≤ (hh : Int) := by omega
        rcases hhi with ⟨rfl, rfl⟩ | ⟨oz, k, rfl, ez'⟩ <;> rcases hl with ⟨rfl, rfl⟩ | ⟨oy, k', rfl, ey⟩ <;>
          simp_all [Instr.sliceBounds, Instr.sliceBound, asIntOf]
      rw [hes] at hs0
      obtain ⟨i, hi', hsz⟩ := info_of_size hs0
      rw [hsz] at hes
      refine ⟨.slice (if cap = l then ad else ad.map (·.add (l * i.size))) (hh - l) (cap - l), _, ?_, ?_, h4⟩
      · simp only [execOp, h1, Instr.sliceAt, Instr.slice, Sem.run_bind, run_underlying hu, Result.andThen_ok, Option.map_none, hbounds]
        simp [Go.sizeOf, typeInfo, program, Sem.run, hi']
      · have hlen : ((rows.take hh).drop l).length = hh - l := by simp; omega
        simp only [Rv, Rc]
        refine ⟨_, cap - l, by rw [hlen], by rw [hlen]; omega, ?_⟩
        rcases Nat.lt_or_ge l hh with hlt | hge
        · right
          rcases h6 with rfl | ⟨b, o, s, rfl, hb, hr⟩
          · simp at h3; omega
          · have hrow : 0 < rows.length := by omega
            have hse : s = i.size := by
              obtain ⟨r0, hr0⟩ : ∃ r0, rows[0]? = some r0 := ⟨_, List.getElem?_eq_getElem hrow⟩
              have e1 := (RcRows_at _ _ _ _ 0 r0 hr hr0).1
              have e2 := hrl r0 (List.mem_of_getElem? hr0)
              rw [← e1, e2, hes]
            subst hse
            refine ⟨b, o + l * i.size, i.size, ?_, hb, RcRows_drop _ _ _ _ _ (RcRows_take _ _ _ _ _ hr)⟩
            rw [if_neg (by omega)]
            simp [Addr.add_lit]
        · left
          apply List.eq_nil_of_length_eq_zero
          omega
    · exact hq.elim
  case h_14 t parts =>
    split at hq
    · rename_i fs hd
      obtain ⟨h1, h2, h3⟩ := hq
      obtain ⟨fl, hu, hfs⟩ := tI_struct hd
      obtain ⟨it, hit⟩ := info_of_und hu
      obtain ⟨z, hz, hzz⟩ : ∃ z, it.zero = some z ∧ (tI P t).zero = z.cells.toList.map cD := by
        cases hz : it.zero with
        | none => simp [tI, zerosOf, hit, hz] at h2
        | some z => exact ⟨z, rfl, by simp [tI, zerosOf, hit, hz]⟩
      have hpl : fl.toList.mapM (fun f => (P.info? f.type).map fun i => (f.offset, i.size)) = some fs := by
        subst hfs
        have h1' : ∀ f ∈ fl.toList, ((P.info? f.type).map (·.size)).getD 0 ≠ 0 := by
          intro f hf
          have := List.all_eq_true.1 h1 _ (List.mem_map.2 ⟨f, hf, rfl⟩)
          simpa using this
        clear h1 h3 hd hu
        generalize fl.toList = l at h1'
        induction l with
        | nil => rfl
        | cons f l ih =>
          obtain ⟨i, hi, _⟩ := info_of_size (h1' f (by simp))
          simp [List.mapM_cons, hi, ih (fun f hf => h1' f (by simp [hf]))]
      have hfill : ∀ (ps : List (Nat × Operand)) (cells : List D) (cs : List Value) (KK : List D → Prop), RvL w Im β M cells cs → fillQ (fs[·]?) cells (ps.map fun p => (p.1, Go.Proofs.Ytelolknpcmjdeaa.ev σ p.2)) KK →
          ∃ cells' cs', Instr.fill (fs.toArray[·]?) cs.toArray (ps.map fun p => (p.1, a.eval p.2)) = some (List.toArray cs') ∧ RvL w Im β M cells' cs' ∧ KK cells' :=
        fun ps cells cs KK hc hf => fill_sound h ps cells cs KK hc hf
      have hz0 : RvL w Im β M ((z.cells.toList).map cD) z.cells.toList := by
        generalize z.cells.toList = l
        induction l with
        | nil => simp [RvL]
        | cons v l ih => simp only [List.map_cons, RvL]; exact ⟨v, l, rfl, Rv_cD v, ih⟩
      rw [hzz] at h3
      obtain ⟨cells', cs', h5, h6, h7⟩ := hfill _ _ _ _ hz0 h3
      refine ⟨.agg cs'.toArray, _, ?_, ?_, h7⟩
      · have := run_build (P := P) w t (parts.map fun (i, x) => (i, a.eval x)) cs'.toArray (by
          simp only [Program.built, hit, hu, hz, hpl]
          simpa using h5)
        simp only [execOp, Sem.run_bind, this, Result.andThen_ok]
        rfl
      · simp only [Rv]; exact ⟨cs', rfl, h6⟩
    · exact hq.elim
  case h_15 args ts =>
    split at hq
    · rename_i x t hargs hts
      have ea : args = #[x] := Array.toList_inj.1 (by simpa using hargs)
      have et : ts = #[t] := Array.toList_inj.1 (by simpa using hts)
      subst ea et
      split at hq
      · rename_i s hd hc
        have h1 := hev x
        rw [hc] at h1
        simp only [Rv, Rc] at h1
        refine ⟨.int .i64 s.length, _, ?_, by simp [Rv, Rc], hq⟩
        have e0 : (ByteArray.mk s.toArray).size = s.length := by simp [ByteArray.size]
        simp [execOp, resolve, invoke, builtin, Builtin.len_, h1, run_underlying (tI_str hd), goInt, e0]
      · rename_i e es eb ez hd
        obtain ⟨rows, h2, h3⟩ := hq
        obtain ⟨ad, cap, h5, h6, h7⟩ := rows_at h (hev x) h2
        refine ⟨.int .i64 rows.length, _, ?_, by simp [Rv, Rc], h3⟩
        simp [execOp, resolve, invoke, builtin, Builtin.len_, h5, run_underlying (tI_slice hd).1, goInt]
      · exact hq.elim
    · exact hq.elim
  case h_16 args ts =>
    split at hq
    · rename_i x y hargs
      have ea : args = #[x, y] := Array.toList_inj.1 (by simpa using hargs)
      subst ea
      split at hq
      · rename_i k i k' j hx hy
        have h1 := hev x
        rw [hx] at h1
        simp only [Rv, Rc] at h1
        have h2 := hev y
        rw [hy] at h2
        simp only [Rv, Rc] at h2
        refine ⟨.int k (if j < i then j else i), _, ?_, by simp [Rv, Rc], hq⟩
        simp [execOp, resolve, invoke, builtin, Builtin.min_, Builtin.min2, h1, h2]
      · exact hq.elim
    · exact hq.elim
  case h_17 args ts =>
    split at hq
    · rename_i x y hargs
      have ea : args = #[x, y] := Array.toList_inj.1 (by simpa using hargs)
      subst ea
      split at hq
      · rename_i k i k' j hx hy
        have h1 := hev x
        rw [hx] at h1
        simp only [Rv, Rc] at h1
        have h2 := hev y
        rw [hy] at h2
        simp only [Rv, Rc] at h2
        refine ⟨.int k (if i < j then j else i), _, ?_, by simp [Rv, Rc], hq⟩
        simp [execOp, resolve, invoke, builtin, Builtin.max_, Builtin.max2, h1, h2]
      · exact hq.elim
    · exact hq.elim
  case h_18 => exact hq.elim
end

end Go.Proofs.Ytelolknpcmjdeaa
