/- The words of this program. -/
import Derived.Test.YtgdldeggoflabaaMP
import Derived.Test.YtgdldeggoflabaaProg
/- The words of this part of the program (a). -/
namespace Go.Proofs.Ytgdldeggoflabaa
open Go.RowKit
set_option linter.unusedSimpArgs false
set_option linter.unusedVariables false
set_option maxRecDepth 100000
set_option linter.defProp false
theorem ti3 : tI Try.prog 3 = ⟨.int .i64, 1, [.int .i64 0]⟩ := by kernel_rfl
theorem ct3 : ctOf Try.prog 8 3 = some [.int .i64] := by kernel_rfl
theorem ti4 : tI Try.prog 4 = ⟨.bool, 1, [.bool false]⟩ := by kernel_rfl
theorem ti5 : tI Try.prog 5 = ⟨.int .u8, 1, [.int .u8 0]⟩ := by kernel_rfl
theorem ti9 : tI Try.prog 9 = ⟨.str, 1, [.str []]⟩ := by kernel_rfl
theorem ti22 : tI Try.prog 22 = ⟨.slice 131 3 24 [.int .i64 0, .bool false, .int .i64 0], 1, [.nl]⟩ := by kernel_rfl
theorem ti23 : tI Try.prog 23 = ⟨.slice 135 5 40 [.int .i64 0, .int .i64 0, .int .i64 0, .int .i64 0, .int .i64 0], 1, [.nl]⟩ := by kernel_rfl
theorem ti25 : tI Try.prog 25 = ⟨.struct [(0, 1), (1, 1)], 2, [.nl, .nl]⟩ := by kernel_rfl
theorem ct25 : ctOf Try.prog 8 25 = some [.slice [.int .i64, .bool, .int .i64], .slice [.int .i64, .int .i64, .int .i64, .int .i64, .int .i64]] := by kernel_rfl
theorem ti26 : tI Try.prog 26 = ⟨.slice 83 4 48 [.int .i64 0, .int .i64 0, .int .i64 0, .nl], 1, [.nl]⟩ := by kernel_rfl
theorem ti30 : tI Try.prog 30 = ⟨.slice 107 3 24 [.int .i64 0, .bool false, .int .i64 0], 1, [.nl]⟩ := by kernel_rfl
theorem ti31 : tI Try.prog 31 = ⟨.slice 133 5 40 [.int .i64 0, .int .i64 0, .int .i64 0, .int .i64 0, .int .i64 0], 1, [.nl]⟩ := by kernel_rfl
theorem ti33 : tI Try.prog 33 = ⟨.struct [(0, 1), (1, 1)], 2, [.nl, .nl]⟩ := by kernel_rfl
theorem ti35 : tI Try.prog 35 = ⟨.slice 86 4 48 [.int .i64 0, .int .i64 0, .int .i64 0, .nl], 1, [.nl]⟩ := by kernel_rfl
theorem ti44 : tI Try.prog 44 = ⟨.slice 143 5 40 [.int .i64 0, .int .i64 0, .int .i64 0, .int .i64 0, .int .i64 0], 1, [.nl]⟩ := by kernel_rfl
theorem ti46 : tI Try.prog 46 = ⟨.struct [(0, 1), (1, 1), (2, 1)], 3, [.int .i64 0, .int .i64 0, .nl]⟩ := by kernel_rfl
theorem ti49 : tI Try.prog 49 = ⟨.slice 115 5 40 [.int .i64 0, .int .i64 0, .int .i64 0, .int .i64 0, .int .i64 0], 1, [.nl]⟩ := by kernel_rfl
theorem ti51 : tI Try.prog 51 = ⟨.struct [(0, 1), (1, 1), (2, 1)], 3, [.int .i64 0, .int .i64 0, .nl]⟩ := by kernel_rfl
theorem ti55 : tI Try.prog 55 = ⟨.slice 3 1 8 [.int .i64 0], 1, [.nl]⟩ := by kernel_rfl
theorem ti62 : tI Try.prog 62 = ⟨.struct [(0, 1), (1, 1), (2, 1), (3, 1)], 4, [.int .i64 0, .int .i64 0, .int .i64 0, .int .i64 0]⟩ := by kernel_rfl
theorem ti64 : tI Try.prog 64 = ⟨.struct [(0, 1), (1, 1), (2, 1), (3, 1)], 4, [.int .i64 0, .int .i64 0, .int .i64 0, .int .i64 0]⟩ := by kernel_rfl
theorem ti67 : tI Try.prog 67 = ⟨.slice 5 1 1 [.int .u8 0], 1, [.nl]⟩ := by kernel_rfl
theorem ti83 : tI Try.prog 83 = ⟨.struct [(0, 1), (1, 3)], 4, [.int .i64 0, .int .i64 0, .int .i64 0, .nl]⟩ := by kernel_rfl
theorem ti86 : tI Try.prog 86 = ⟨.struct [(0, 1), (1, 3)], 4, [.int .i64 0, .int .i64 0, .int .i64 0, .nl]⟩ := by kernel_rfl
theorem ti107 : tI Try.prog 107 = ⟨.struct [(0, 1), (1, 1), (2, 1)], 3, [.int .i64 0, .bool false, .int .i64 0]⟩ := by kernel_rfl
theorem ti115 : tI Try.prog 115 = ⟨.struct [(0, 1), (1, 1), (2, 1), (3, 1), (4, 1)], 5, [.int .i64 0, .int .i64 0, .int .i64 0, .int .i64 0, .int .i64 0]⟩ := by kernel_rfl
theorem ti124 : tI Try.prog 124 = ⟨.slice 9 1 16 [.str []], 1, [.nl]⟩ := by kernel_rfl
theorem ti131 : tI Try.prog 131 = ⟨.struct [(0, 1), (1, 1), (2, 1)], 3, [.int .i64 0, .bool false, .int .i64 0]⟩ := by kernel_rfl
theorem ti133 : tI Try.prog 133 = ⟨.struct [(0, 1), (1, 1), (2, 1), (3, 1), (4, 1)], 5, [.int .i64 0, .int .i64 0, .int .i64 0, .int .i64 0, .int .i64 0]⟩ := by kernel_rfl
theorem ti135 : tI Try.prog 135 = ⟨.struct [(0, 1), (1, 1), (2, 1), (3, 1), (4, 1)], 5, [.int .i64 0, .int .i64 0, .int .i64 0, .int .i64 0, .int .i64 0]⟩ := by kernel_rfl
theorem ti143 : tI Try.prog 143 = ⟨.struct [(0, 1), (1, 1), (2, 1), (3, 1), (4, 1)], 5, [.int .i64 0, .int .i64 0, .int .i64 0, .int .i64 0, .int .i64 0]⟩ := by kernel_rfl
theorem ti148 : tI Try.prog 148 = ⟨.int .u64, 1, [.int .u64 0]⟩ := by kernel_rfl
def bT := And.intro ti3 (And.intro ti4 (And.intro ti5 (And.intro ti9 (And.intro ti22 (And.intro ti23 (And.intro ti25 (And.intro ti26 (And.intro ti30 (And.intro ti31 (And.intro ti33 (And.intro ti35 (And.intro ti44 (And.intro ti46 (And.intro ti49 (And.intro ti51 (And.intro ti55 (And.intro ti62 (And.intro ti64 (And.intro ti67 (And.intro ti83 (And.intro ti86 (And.intro ti107 (And.intro ti115 (And.intro ti124 (And.intro ti131 (And.intro ti133 (And.intro ti135 (And.intro ti143 (ti148)))))))))))))))))))))))))))))
structure Hp where
  asn : Int
  ing : Int
  eg : Int
  ex : Int
  mac : Int
  deriving DecidableEq
structure Pl where
  ml : Int
  den : Int
  clo : Int
  life : Int
  deriving DecidableEq
abbrev hopRow (h : Hp) : List D := [.int .i64 h.asn, .int .i64 h.ing, .int .i64 h.eg, .int .i64 h.ex, .int .i64 h.mac]
abbrev polRow (p : Pl) : List D := [.int .i64 p.ml, .int .i64 p.den, .int .i64 p.clo, .int .i64 p.life]
structure Sg where
  ts : Int
  beta : Int
  hops : List Hp
  deriving DecidableEq
abbrev segRow (s : Sg) : List D := [.int .i64 s.ts, .int .i64 s.beta, .sl (s.hops.map hopRow)]

theorem wr64 {a : Int} (h : -9223372036854775808 ≤ a) (h' : a < 9223372036854775808) : IntKind.i64.wrap a = a := by
  rw [IntKind.wrap_i64]; omega
theorem wrapS {k : Nat} (h : k < 4611686018427387904) : IntKind.i64.wrap ((k : Int) + 1) = (k : Int) + 1 := wr64 (by omega) (by omega)
theorem take_step {α : Type} {l m : List α} {k : Nat} (h : k < l.length) (h' : k < m.length) (ht : l.take k = m.take k) (he : l[k] = m[k]) : l.take (k + 1) = m.take (k + 1) := by
  rw [List.take_succ_eq_append_getElem h, List.take_succ_eq_append_getElem h', ht, he]
/-- rows that are filled from the left -/
def fillR {α : Type} (f : α → List D) (z : List D) (l : List α) (k : Nat) : List (List D) := (l.take k).map f ++ List.replicate (l.length - k) z
section
variable {α : Type} {f : α → List D} {z : List D} {l : List α} {k : Nat}
theorem fillR_len (h : k ≤ l.length) : (fillR f z l k).length = l.length := by simp [fillR]; omega
theorem fillR_get (h : k < l.length) : (fillR f z l k).getD k [] = z := by
  simp only [fillR, List.getD, List.getElem?_append, List.length_map, List.length_take]
  rw [if_neg (by omega)]
  simp [show k - min k l.length = 0 by omega, List.getElem?_replicate, show 0 < l.length - k by omega]
theorem fillR_set (h : k < l.length) : (fillR f z l k).set k (f l[k]) = fillR f z l (k + 1) := by
  simp only [fillR]
  rw [List.set_append_right _ _ (by simp; omega)]
  have e1 : k - ((l.take k).map f).length = 0 := by simp; omega
  have e2 : l.length - k = (l.length - (k + 1)) + 1 := by omega
  rw [e1, e2, List.replicate_succ, List.set_cons_zero, List.take_succ_eq_append_getElem h, List.map_append, List.append_assoc]
  rfl
theorem fillR_zero : fillR f z l 0 = List.replicate l.length z := by simp [fillR]
theorem fillR_all : fillR f z l l.length = l.map f := by simp [fillR]
end
theorem getD_map_lt {α : Type} {f : α → List D} {l : List α} {k : Nat} (h : k < l.length) : (l.map f).getD k [] = f l[k] := by simp [List.getD, h]

theorem eq_hop : AggEq Try.prog 115 5 := aggEq_of (by kernel_rfl)

def inR (a b c : Int) : Bool := decide (b ≤ a) && decide (a ≤ c)

def firstAS (s : Sg) : Int := match s.hops with | [] => -1 | h :: _ => h.asn
def lastAS (s : Sg) : Int := if h : 0 < s.hops.length then s.hops[s.hops.length - 1].asn else -1
def isTerm (s : Sg) : Bool := if h : 0 < s.hops.length then s.hops[s.hops.length - 1].eg == 0 else false
end Go.Proofs.Ytgdldeggoflabaa

/- The words of this part of the program (b). -/
namespace Go.Proofs.Ytgdldeggoflabaa
open Go.RowKit
set_option linter.unusedSimpArgs false
set_option linter.unusedVariables false
set_option maxRecDepth 100000
def union (a b : Int) : Int := if inR a 0 65535 && inR b 0 65535 then IntKind.i64.wrap (BitVec.ofInt IntKind.i64.bits a ||| BitVec.ofInt IntKind.i64.bits b).toNat else 0
def validPol (p : Pl) : Bool := inR p.ml 1 8 && inR p.den 0 65535 && inR p.clo 0 65535 && inR p.life 1 1000
def validHop (h : Hp) : Bool := inR h.asn 0 7 && inR h.ing 0 6 && inR h.eg 0 6 && (h.ing != h.eg) && inR h.ex 0 1000000 && inR h.mac 0 2147483646
def defPol : Pl := ⟨8, 0, 0, 100⟩

def polFor (l : List Pl) (r : Int) : Pl := if h : 0 ≤ r ∧ r.toNat < l.length then (if validPol l[r.toNat] then l[r.toNat] else defPol) else defPol

end Go.Proofs.Ytgdldeggoflabaa

/- The words of this part of the program (c). -/
namespace Go.Proofs.Ytgdldeggoflabaa
open Go.RowKit
set_option linter.unusedSimpArgs false
set_option linter.unusedVariables false
set_option maxRecDepth 100000
/-- the least expiry -/
def leastEx : List Hp → Int
  | [] => 0
  | h :: t => t.foldl (fun m x => min m x.ex) h.ex
end Go.Proofs.Ytgdldeggoflabaa

/- The words of this part of the program (d). -/
namespace Go.Proofs.Ytgdldeggoflabaa
open Go.RowKit
set_option linter.unusedSimpArgs false
set_option linter.unusedVariables false
set_option maxRecDepth 100000
abbrev intRow (n : Int) : List D := [.int .i64 n]
theorem rowLen_map {α : Type} {f : α → List D} {s : Nat} {l : List α} (h : ∀ a, (f a).length = s) : RowLen (l.map f) s := by
  intro r hr
  obtain ⟨a, _, rfl⟩ := List.mem_map.1 hr
  exact h a
theorem rowLen_ints (l : List Int) : RowLen (l.map intRow) 1 := rowLen_map fun _ => rfl
theorem rowLen_nil (s : Nat) : RowLen [] s := by intro r hr; simp at hr
theorem rowLen_cons (r : List D) (l : List (List D)) (s : Nat) : RowLen (r :: l) s = (r.length = s ∧ RowLen l s) := by simp [RowLen]
theorem rowLen_append (l m : List (List D)) (s : Nat) : RowLen (l ++ m) s = (RowLen l s ∧ RowLen m s) := by
  simp only [RowLen, List.mem_append, eq_iff_iff]
  exact ⟨fun h => ⟨fun r hr => h r (.inl hr), fun r hr => h r (.inr hr)⟩, fun h r hr => hr.elim (h.1 r) (h.2 r)⟩

def modZ (n m : Int) : Int := if inR m 1 1000000000000 then (IntKind.i64.wrap (n.tmod m + m)).tmod m else 0
def digStep (d x : Int) : Int := (IntKind.i64.wrap (IntKind.i64.wrap (IntKind.i64.wrap (d * 1000003) + modZ x 2147483647) + 11)).tmod 2147483647
def digest (l : List Int) : Int := l.foldl digStep 7
def mac (key : Int) (l : List Int) : Int := digest (key :: (l ++ [key]))

def hopMac (key ts be : Int) (h : Hp) : Int := mac key [ts, be, h.asn, h.ing, h.eg, h.ex]
def authHop (key ts be : Int) (h : Hp) : Hp := ⟨h.asn, h.ing, h.eg, h.ex, hopMac key ts be h⟩

end Go.Proofs.Ytgdldeggoflabaa

/- The words of this part of the program (e). -/
namespace Go.Proofs.Ytgdldeggoflabaa
open Go.RowKit
set_option linter.unusedSimpArgs false
set_option linter.unusedVariables false
set_option maxRecDepth 100000
def segIds (s : Sg) : List Int := s.ts :: s.beta :: s.hops.flatMap fun h => [h.asn, h.ing, h.eg, h.ex]
abbrev idsK (s : Sg) (k : Nat) : List Int := segIds ⟨s.ts, s.beta, s.hops.take k⟩
def encodable (s : Sg) : Bool := inR s.ts 0 1000000 && inR s.beta 0 2147483646 && decide (s.hops.length ≤ 8) && s.hops.all validHop
end Go.Proofs.Ytgdldeggoflabaa

/- The words of this part of the program (f). -/
namespace Go.Proofs.Ytgdldeggoflabaa
open Go.RowKit
set_option linter.unusedSimpArgs false
set_option linter.unusedVariables false
set_option maxRecDepth 100000
/-- the digits -/
def digs (m : Nat) : List UInt8 := if h : m < 10 then [UInt8.ofNat (48 + m)] else digs (m / 10) ++ [UInt8.ofNat (48 + m % 10)]
termination_by m
decreasing_by omega
def fmtInt (n : Int) : List UInt8 := if n < 0 then 45 :: digs n.natAbs else digs n.natAbs
abbrev byteRow (b : UInt8) : List D := [.int .u8 b.toNat]
theorem rowLen_bytes (l : List UInt8) : RowLen (l.map byteRow) 1 := rowLen_map fun _ => rfl
theorem bytesOf_map : ∀ (l : List UInt8), bytesOf (l.map byteRow) = some l
  | [] => rfl
  | b :: l => by simp [bytesOf, bytesOf_map l]
theorem bytesOf_cons (b : UInt8) (l : List UInt8) : bytesOf ([.int .u8 b.toNat] :: l.map byteRow) = some (b :: l) := bytesOf_map (b :: l)
theorem bytesOf_one (b : UInt8) : bytesOf [[.int .u8 b.toNat]] = some [b] := bytesOf_map [b]
end Go.Proofs.Ytgdldeggoflabaa

/- The words of this part of the program (g). -/
namespace Go.Proofs.Ytgdldeggoflabaa
open Go.RowKit
set_option linter.unusedSimpArgs false
set_option linter.unusedVariables false
set_option maxRecDepth 100000
def cont (s i : Int) : Bool := inR s 0 65535 && inR i 0 15 && (IntKind.i64.wrap (BitVec.ofInt IntKind.i64.bits (s.fdiv (2 ^ min i.toNat IntKind.i64.bits)) &&& BitVec.ofInt IntKind.i64.bits 1).toNat == 1)
def elemsK (s : Int) (k : Nat) : List Int := (List.range k).flatMap fun (i : Nat) => if cont s i then [(i : Int)] else []
def elems (s : Int) : List Int := elemsK s 16
def joinT (by_ : List UInt8) : List (List UInt8) → List UInt8
  | [] => []
  | x :: l => x ++ (l.flatMap fun y => by_ ++ y)
theorem elemsK_zero (s : Int) : elemsK s 0 = [] := rfl
theorem elemsK_step (s : Int) (k : Nat) : elemsK s (k + 1) = elemsK s k ++ (if cont s k then [(k : Int)] else []) := by
  simp only [elemsK, List.range_succ, List.flatMap_append, List.flatMap_cons, List.flatMap_nil, List.append_nil]
theorem elemsK_len (s : Int) : ∀ k, (elemsK s k).length ≤ k
  | 0 => by simp [elemsK_zero]
  | k + 1 => by
    have := elemsK_len s k
    rw [elemsK_step]; split <;> simp <;> omega
theorem rowLen_strs (l : List (List UInt8)) : RowLen (l.map fun s => [D.str s]) 1 := rowLen_map fun _ => rfl
def fmtPol (p : Pl) : List UInt8 := fmtInt p.ml ++ [32] ++ fmtInt p.life ++ [32, 100] ++ joinT [44] ((elems p.den).map fmtInt) ++ [32, 115] ++ joinT [44] ((elems p.clo).map fmtInt)
def polW (p : Pl) : Prop := (-9223372036854775808 ≤ p.ml ∧ p.ml < 9223372036854775808) ∧ (-9223372036854775808 ≤ p.life ∧ p.life < 9223372036854775808)
theorem i64_wf {a : Int} (h : (Lit.int .i64 a).wf = true) : -9223372036854775808 ≤ a ∧ a < 9223372036854775808 := by
  simp only [Lit.wf, Bool.and_eq_true, decide_eq_true_eq] at h
  have h1 : IntKind.i64.min = -9223372036854775808 := by decide
  have h2 : IntKind.i64.max = 9223372036854775807 := by decide
  omega
end Go.Proofs.Ytgdldeggoflabaa

/- The words of this part of the program (h). -/
namespace Go.Proofs.Ytgdldeggoflabaa
open Go.RowKit
set_option linter.unusedSimpArgs false
set_option linter.unusedVariables false
set_option maxRecDepth 100000
structure As where
  isd : Int
  core : Bool
  key : Int
  deriving DecidableEq
structure Lk where
  a : Int
  ai : Int
  b : Int
  bi : Int
  kind : Int
  deriving DecidableEq
structure Tp where
  ases : List As
  links : List Lk
  deriving DecidableEq
abbrev asRow (x : As) : List D := [.int .i64 x.isd, .bool x.core, .int .i64 x.key]
abbrev lkRow (x : Lk) : List D := [.int .i64 x.a, .int .i64 x.ai, .int .i64 x.b, .int .i64 x.bi, .int .i64 x.kind]
abbrev tpRow (t : Tp) : List D := [.sl (t.ases.map asRow), .sl (t.links.map lkRow)]
def i64R (n : Int) : Prop := -9223372036854775808 ≤ n ∧ n < 9223372036854775808
theorem isIntW {x : D} (h : IsC (.int .i64) x) : ∃ a, x = .int .i64 a ∧ i64R a := by
  simp only [IsC] at h
  obtain ⟨a, rfl, w⟩ := h
  exact ⟨a, rfl, i64_wf w⟩
theorem isBool {x : D} (h : IsC .bool x) : ∃ a, x = .bool a := by
  simp only [IsC] at h
  exact h
def hopW (h : Hp) : Prop := i64R h.asn ∧ i64R h.ing ∧ i64R h.eg ∧ i64R h.ex ∧ i64R h.mac
def asW (x : As) : Prop := i64R x.isd ∧ i64R x.key
def lkW (x : Lk) : Prop := i64R x.a ∧ i64R x.ai ∧ i64R x.b ∧ i64R x.bi ∧ i64R x.kind
def segW (s : Sg) : Prop := i64R s.ts ∧ i64R s.beta ∧ ∀ h ∈ s.hops, hopW h
def tpW (t : Tp) : Prop := (∀ x ∈ t.ases, asW x) ∧ (∀ x ∈ t.links, lkW x)
theorem isLkW {x : List D} (h : IsL [.int .i64, .int .i64, .int .i64, .int .i64, .int .i64] x) : ∃ p : Lk, x = lkRow p ∧ lkW p := by
  simp only [IsL] at h
  obtain ⟨_, _, rfl, h1, _, _, rfl, h2, _, _, rfl, h3, _, _, rfl, h4, _, _, rfl, h5, rfl⟩ := h
  obtain ⟨a, rfl, w1⟩ := isIntW h1
  obtain ⟨b, rfl, w2⟩ := isIntW h2
  obtain ⟨c, rfl, w3⟩ := isIntW h3
  obtain ⟨d, rfl, w4⟩ := isIntW h4
  obtain ⟨e, rfl, w5⟩ := isIntW h5
  exact ⟨⟨a, b, c, d, e⟩, rfl, w1, w2, w3, w4, w5⟩
theorem isAsW {x : List D} (h : IsL [.int .i64, .bool, .int .i64] x) : ∃ p : As, x = asRow p ∧ asW p := by
  simp only [IsL] at h
  obtain ⟨_, _, rfl, h1, _, _, rfl, h2, _, _, rfl, h3, rfl⟩ := h
  obtain ⟨a, rfl, w1⟩ := isIntW h1
  obtain ⟨b, rfl⟩ := isBool h2
  obtain ⟨c, rfl, w3⟩ := isIntW h3
  exact ⟨⟨a, b, c⟩, rfl, w1, w3⟩
theorem isRowsW {α : Type} {f : α → List D} {W : α → Prop} {es : List CT} (hf : ∀ x, IsL es x → ∃ a, x = f a ∧ W a) {x : D} (h : IsC (.slice es) x) : ∃ l : List α, x = .sl (l.map f) ∧ l.length ≤ maxLen ∧ ∀ a ∈ l, W a := by
  simp only [IsC] at h
  obtain ⟨rows, rfl, hl, hr⟩ := h
  have : ∃ l : List α, rows = l.map f ∧ ∀ a ∈ l, W a := by
    clear hl
    induction rows with
    | nil => exact ⟨[], rfl, by simp⟩
    | cons r rs ih =>
      obtain ⟨l, hl, hw⟩ := ih fun r hr' => hr r (by simp [hr'])
      obtain ⟨a, ha, wa⟩ := hf r (hr r (by simp))
      exact ⟨a :: l, by simp [ha, hl], by simpa using ⟨wa, hw⟩⟩
  obtain ⟨l, rfl, hw⟩ := this
  exact ⟨l, rfl, by simpa using hl, hw⟩
theorem isTpW {x : List D} (h : IsL [.slice [.int .i64, .bool, .int .i64], .slice [.int .i64, .int .i64, .int .i64, .int .i64, .int .i64]] x) : ∃ t : Tp, x = tpRow t ∧ (t.ases.length ≤ maxLen ∧ t.links.length ≤ maxLen) ∧ tpW t := by
  simp only [IsL] at h
  obtain ⟨_, _, rfl, h1, _, _, rfl, h2, rfl⟩ := h
  obtain ⟨l, rfl, hl, w1⟩ := isRowsW (fun _ => isAsW) h1
  obtain ⟨m, rfl, hm, w2⟩ := isRowsW (fun _ => isLkW) h2
  exact ⟨⟨l, m⟩, rfl, ⟨hl, hm⟩, w1, w2⟩
theorem rowLen_hops (l : List Hp) : RowLen (l.map hopRow) 5 := rowLen_map fun _ => rfl
theorem rowLen_ases (l : List As) : RowLen (l.map asRow) 3 := rowLen_map fun _ => rfl
theorem rowLen_links (l : List Lk) : RowLen (l.map lkRow) 5 := rowLen_map fun _ => rfl
def realm (t : Tp) (r : Int) : Bool := inR r 0 ((t.ases.length : Int) - 1)
theorem realm_lt {t : Tp} {r : Int} (h : realm t r = true) : 0 ≤ r ∧ r.toNat < t.ases.length := by
  simp only [realm, inR, Bool.and_eq_true, decide_eq_true_eq] at h
  omega

def verHop (t : Tp) (ts be : Int) (h : Hp) : Bool := validHop h && (if hh : realm t h.asn = true then h.mac == hopMac (t.ases[h.asn.toNat]'(realm_lt hh).2).key ts be h else false)

end Go.Proofs.Ytgdldeggoflabaa

/- The words of this part of the program (i). -/
namespace Go.Proofs.Ytgdldeggoflabaa
open Go.RowKit
set_option linter.unusedSimpArgs false
set_option linter.unusedVariables false
set_option maxRecDepth 100000
def addM2 (b s : Int) : Int := if inR b 0 2147483646 && inR s 0 2147483646 then (IntKind.i64.wrap (b + s)).tmod 2147483647 else 0
def chainA (b : Int) (l : List Int) : Int := l.foldl addM2 b
def macs (l : List Hp) : List Int := l.map Hp.mac
def ases (l : List Hp) : List Int := l.map Hp.asn
def betaAt (s : Sg) (i : Int) : Int := if inR i 0 s.hops.length then chainA s.beta (macs (s.hops.take i.toNat)) else 0

def allows (p : Pl) (s : Sg) (out : Int) : Bool := decide ((s.hops.length : Int) < p.ml) && !cont p.clo out && (ases s.hops).all fun r => !cont p.den r
end Go.Proofs.Ytgdldeggoflabaa

/- The words of this part of the program (j). -/
namespace Go.Proofs.Ytgdldeggoflabaa
open Go.RowKit
set_option linter.unusedSimpArgs false
set_option linter.unusedVariables false
set_option maxRecDepth 100000
structure Bc where
  ing : Int
  seg : Sg
  deriving DecidableEq
abbrev bcRow (b : Bc) : List D := [.int .i64 b.ing, .int .i64 b.seg.ts, .int .i64 b.seg.beta, .sl (b.seg.hops.map hopRow)]
def bcW (b : Bc) : Prop := i64R b.ing ∧ segW b.seg
theorem rowLen_bcs (l : List Bc) : RowLen (l.map bcRow) 4 := rowLen_map fun _ => rfl
/-- how much is left behind a list of beacons -/
def szB (l : List Bc) : Nat := (l.map fun b => b.seg.hops.length).sum
def leftB (l : List Bc) (a : Int) : Int := if a - l.length - szB l < 0 then -1 else a - l.length - szB l

def hasB (l : List Bc) (g : Bc) : Bool := l.any fun x => decide (x = g)
def addE (s i : Int) : Int := if inR s 0 65535 && inR i 0 15 then IntKind.i64.wrap (BitVec.ofInt IntKind.i64.bits s ||| BitVec.ofInt IntKind.i64.bits (IntKind.i64.wrap (1 * 2 ^ min i.toNat IntKind.i64.bits))).toNat else s

def origA (l : List Bc) : Int := l.foldl (fun s b => addE s (firstAS b.seg)) 0
end Go.Proofs.Ytgdldeggoflabaa

/- The words of this part of the program (k). -/
namespace Go.Proofs.Ytgdldeggoflabaa
open Go.RowKit
set_option linter.unusedSimpArgs false
set_option linter.unusedVariables false
set_option maxRecDepth 100000
theorem flat_map {α : Type} {f : α → List D} (hf : ∀ a, (f a).all scal = true) (l : List α) : FlatRows (l.map f) := by
  intro r hr d hd
  obtain ⟨a, _, rfl⟩ := List.mem_map.1 hr
  exact List.all_eq_true.1 (hf a) d hd
def fmtAS (t : Tp) (r : Int) : List UInt8 := if hh : realm t r = true then fmtInt (t.ases[r.toNat]'(realm_lt hh).2).isd ++ [45] ++ fmtInt r else [63]
def fmtHop (t : Tp) (h : Hp) : List UInt8 := fmtAS t h.asn ++ [58] ++ fmtInt h.ing ++ [62] ++ fmtInt h.eg

def vEnc (n : Nat) : List UInt8 := if h : n < 128 then [UInt8.ofNat n] else UInt8.ofNat (n % 128 + 128) :: vEnc (n / 128)
termination_by n
decreasing_by omega
def varI (n : Int) : List UInt8 := if inR n 0 1000000000000 then vEnc n.toNat else []
def encI (l : List Int) : List UInt8 := l.flatMap varI
def hopNs (h : Hp) : List Int := [h.asn, h.ing, h.eg, h.ex, h.mac]
def encHop (h : Hp) : List UInt8 := if validHop h then encI (hopNs h) else []
def encHops (l : List Hp) : List UInt8 := l.flatMap encHop
def encSeg (s : Sg) : List UInt8 := if encodable s then encI [s.ts, s.beta, s.hops.length] ++ encHops s.hops else []

end Go.Proofs.Ytgdldeggoflabaa

/- The words of this part of the program (l). -/
namespace Go.Proofs.Ytgdldeggoflabaa
open Go.RowKit
set_option linter.unusedSimpArgs false
set_option linter.unusedVariables false
set_option maxRecDepth 100000
def ends (l : Lk) (r d : Int) : Bool := (l.a == r && l.ai == d) || (l.b == r && l.bi == d)
/-- the first number below n (counted on from i) at which p holds, or -1 -/
def fstF (p : Nat → Bool) : Nat → Nat → Int
  | 0, _ => -1
  | m + 1, i => if p i then i else fstF p m (i + 1)
theorem fstF_yes {p : Nat → Bool} {n k : Nat} (h : k < n) (hp : p k = true) : fstF p (n - k) k = k := by
  rw [show n - k = (n - (k + 1)) + 1 by omega, fstF, if_pos hp]
theorem fstF_no {p : Nat → Bool} {n k : Nat} (h : k < n) (hp : p k = false) : fstF p (n - k) k = fstF p (n - (k + 1)) (k + 1) := by
  rw [show n - k = (n - (k + 1)) + 1 by omega, fstF, if_neg (by simp [hp])]
theorem fstF_range (p : Nat → Bool) : ∀ (m i : Nat), fstF p m i = -1 ∨ ((i : Int) ≤ fstF p m i ∧ fstF p m i < i + m ∧ p (fstF p m i).toNat = true)
  | 0, _ => .inl rfl
  | m + 1, i => by
    simp only [fstF]
    by_cases h : p i = true
    · rw [if_pos h]; right; exact ⟨by omega, by omega, by simpa using h⟩
    · rw [if_neg h]
      rcases fstF_range p m (i + 1) with e | ⟨e1, e2, e3⟩
      · exact .inl e
      · right; exact ⟨by omega, by omega, e3⟩
def allN (p : Nat → Bool) : Nat → Bool
  | 0 => true
  | n + 1 => allN p n && p n
def lz : Lk := ⟨0, 0, 0, 0, 0⟩
def hz : Hp := ⟨0, 0, 0, 0, 0⟩
theorem getD_lt {α : Type} {l : List α} {k : Nat} {d : α} (h : k < l.length) : l.getD k d = l[k] := by simp [List.getD, h]
def lnk (t : Tp) (r d : Int) : Int := fstF (fun i => ends (t.links.getD i lz) r d) t.links.length 0
theorem lnk_range (t : Tp) (r d : Int) : lnk t r d = -1 ∨ (0 ≤ lnk t r d ∧ (lnk t r d).toNat < t.links.length) := by
  rcases fstF_range (fun i => ends (t.links.getD i lz) r d) t.links.length 0 with e | ⟨e1, e2, _⟩
  · exact .inl e
  · right; unfold lnk; omega
def remote (t : Tp) (r d : Int) : Int × Int :=
  if lnk t r d < 0 then (-1, 0)
  else if ((t.links.getD (lnk t r d).toNat lz).a == r && (t.links.getD (lnk t r d).toNat lz).ai == d) = true then ((t.links.getD (lnk t r d).toNat lz).b, (t.links.getD (lnk t r d).toNat lz).bi)
  else ((t.links.getD (lnk t r d).toNat lz).a, (t.links.getD (lnk t r d).toNat lz).ai)
def ifKind (t : Tp) (r d : Int) : Int :=
  if (d == 0) = true then 5 else if lnk t r d < 0 then 0
  else if ((t.links.getD (lnk t r d).toNat lz).kind == 1) = true then 1 else if ((t.links.getD (lnk t r d).toNat lz).kind == 3) = true then 4
  else if ((t.links.getD (lnk t r d).toNat lz).kind == 2) = true then (if ((t.links.getD (lnk t r d).toNat lz).a == r && (t.links.getD (lnk t r d).toNat lz).ai == d) = true then 2 else 3) else 0
def hasI (l : List Int) (n : Int) : Bool := l.any fun x => x == n
def hopP (t : Tp) (l : List Hp) (i : Nat) : Bool := validHop (l.getD i hz) && realm t (l.getD i hz).asn && !(hasI (ases (l.take i)) (l.getD i hz).asn)
def lnkP (t : Tp) (l : List Hp) (i : Nat) : Bool := !((l.getD i hz).eg == 0 && decide ((i : Int) < (l.length : Int) - 1)) && (!decide (0 < (i : Int)) || ((remote t (l.getD (i - 1) hz).asn (l.getD (i - 1) hz).eg).1 == (l.getD i hz).asn && (remote t (l.getD (i - 1) hz).asn (l.getD (i - 1) hz).eg).2 == (l.getD i hz).ing))
def hopsOkF (t : Tp) (l : List Hp) : Bool := inR l.length 1 8 && allN (hopP t l) l.length
def wellF (t : Tp) (s : Sg) : Bool := hopsOkF t s.hops && ((s.hops.getD 0 hz).ing == 0) && allN (lnkP t s.hops) s.hops.length

end Go.Proofs.Ytgdldeggoflabaa

/- The words of this part of the program (m). -/
namespace Go.Proofs.Ytgdldeggoflabaa
open Go.RowKit
set_option linter.unusedSimpArgs false
set_option linter.unusedVariables false
set_option maxRecDepth 100000
end Go.Proofs.Ytgdldeggoflabaa

/- The words of this part of the program (n). -/
namespace Go.Proofs.Ytgdldeggoflabaa
open Go.RowKit
set_option linter.unusedSimpArgs false
set_option linter.unusedVariables false
set_option maxRecDepth 100000
def verAt (t : Tp) (s : Sg) (i : Nat) : Bool := verHop t s.ts (betaAt s i) (s.hops.getD i hz)
def fstInv (t : Tp) (s : Sg) : Int := fstF (fun i => !verAt t s i) s.hops.length 0
def authBy (t : Tp) (s : Sg) (r : Int) : Bool := !allN (fun i => !((s.hops.getD i hz).asn == r && verAt t s i)) s.hops.length
def coreF (t : Tp) (r : Int) : Bool := if hh : realm t r = true then (t.ases[r.toNat]'(realm_lt hh).2).core else false
def kindF (t : Tp) : List Hp → Int → Option Int
  | [], kd => some kd
  | h :: l, kd => if (h.eg == 0) = true then kindF t l kd else if (kd == 0) = true then kindF t l (ifKind t h.asn h.eg) else if (ifKind t h.asn h.eg == kd) = true then kindF t l kd else none
def kindE : Option Int → Int
  | some k => if (k == 1) = true then 1 else if (k == 2) = true then 2 else 0
  | none => 0
def segKind (t : Tp) (s : Sg) : Int := if (wellF t s && coreF t (s.hops.getD 0 hz).asn) = true then kindE (kindF t s.hops 0) else 0
def validSeg (t : Tp) (s : Sg) : Bool := wellF t s && decide (fstInv t s < 0) && (segKind t s != 0) && inR s.ts 0 1000000 && inR s.beta 0 2147483646
def usable (t : Tp) (s : Sg) (now : Int) : Bool := validSeg t s && isTerm s && decide (s.ts ≤ now) && decide (now ≤ leastEx s.hops)
def canExt (t : Tp) (s : Sg) (r inn : Int) : Bool := realm t r && validSeg t s && !isTerm s && !hasI (ases s.hops) r && ((remote t (s.hops.getD (s.hops.length - 1) hz).asn (s.hops.getD (s.hops.length - 1) hz).eg).1 == r && (remote t (s.hops.getD (s.hops.length - 1) hz).asn (s.hops.getD (s.hops.length - 1) hz).eg).2 == inn)
def stoP (t : Tp) (r : Int) (l : List Bc) (i : Nat) : Bool := canExt t (l.getD i ⟨0, ⟨0, 0, []⟩⟩).seg r (l.getD i ⟨0, ⟨0, 0, []⟩⟩).ing && !hasB (l.take i) (l.getD i ⟨0, ⟨0, 0, []⟩⟩)
def validStore (t : Tp) (r : Int) (l : List Bc) : Bool := decide (l.length ≤ 12) && allN (stoP t r l) l.length
end Go.Proofs.Ytgdldeggoflabaa

/- The words of this part of the program (o). -/
namespace Go.Proofs.Ytgdldeggoflabaa
open Go.RowKit
set_option linter.unusedSimpArgs false
set_option linter.unusedVariables false
set_option maxRecDepth 100000
def oz : Int := 0

end Go.Proofs.Ytgdldeggoflabaa

/- The words of this part of the program (p). -/
namespace Go.Proofs.Ytgdldeggoflabaa
open Go.RowKit
set_option linter.unusedSimpArgs false
set_option linter.unusedVariables false
set_option maxRecDepth 100000
def fmtHops (t : Tp) (l : List Hp) : List (List UInt8) := l.map (fmtHop t)
def fmtSeg (t : Tp) (s : Sg) : List UInt8 := if (s.hops.length == 0) = true then [45] else joinT [32] (fmtHops t s.hops)
end Go.Proofs.Ytgdldeggoflabaa

/- The words of this part of the program (q). -/
namespace Go.Proofs.Ytgdldeggoflabaa
open Go.RowKit
set_option linter.unusedSimpArgs false
set_option linter.unusedVariables false
set_option maxRecDepth 100000
/-- n elements marked from k on, s numbers an element -/
def marks {α : Type} (mk : Int → α) (s : Nat) (k : Int) (n : Nat) : List α := (List.range n).map fun (i : Nat) => mk (k + s * i)
theorem marks_len {α : Type} (mk : Int → α) (s : Nat) (k : Int) (n : Nat) : (marks mk s k n).length = n := by simp [marks]
theorem marks_get {α : Type} {f : α → List D} (mk : Int → α) (s : Nat) (k : Int) {n j : Nat} (h : j < n) : ((marks mk s k n).map f).getD j [] = f (mk (k + s * j)) := by simp [marks, List.getD, h]
theorem marks_step {α : Type} (mk : Int → α) (s : Nat) (k : Int) (n : Nat) : marks mk s k (n + 1) = marks mk s k n ++ [mk (k + s * n)] := by simp [marks, List.range_succ]
def mixM {α : Type} (f : α → List D) (mk : Int → α) (s : Nat) (k : Int) (l : List α) (j : Nat) : List (List D) := (marks mk s k j).map f ++ (l.drop j).map f
section
variable {α : Type} {f : α → List D} {mk : Int → α} {s : Nat} {k : Int} {l : List α} {j : Nat}
theorem mixM_len (h : j ≤ l.length) : (mixM f mk s k l j).length = l.length := by simp [mixM, marks_len]; omega
theorem mixM_get (h : j < l.length) : (mixM f mk s k l j).getD j [] = f l[j] := by
  simp only [mixM, List.getD]
  rw [List.getElem?_append_right (by simp [marks_len])]
  simp [marks_len, h]
theorem mixM_put (h : j < l.length) (x : List D) : ((mixM f mk s k l j).set j x).getD j [] = x := by
  have := mixM_len (f := f) (mk := mk) (s := s) (k := k) (Nat.le_of_lt h)
  simp [List.getD, this, h]
theorem mixM_set (h : j < l.length) : (mixM f mk s k l j).set j (f (mk (k + s * j))) = mixM f mk s k l (j + 1) := by
  simp only [mixM]
  rw [List.set_append_right _ _ (by simp [marks_len])]
  have e1 : j - ((marks mk s k j).map f).length = 0 := by simp [marks_len]
  rw [e1, List.drop_eq_getElem_cons h, List.map_cons, List.set_cons_zero, marks_step, List.map_append, List.append_assoc]
  rfl
theorem mixM_zero : mixM f mk s k l 0 = l.map f := by simp [mixM, marks]
theorem mixM_all : mixM f mk s k l l.length = (marks mk s k l.length).map f := by simp [mixM]
theorem map_len_marks {m : Nat} (h : m = l.length) : [(marks mk s k m).map f].map List.length = [l.map f].map List.length := by simp [marks_len, h]
end
theorem flat_one {rows : List (List D)} (h : FlatRows rows) : ∀ r ∈ [rows], FlatRows r := by intro r hr; rw [List.mem_singleton.1 hr]; exact h
theorem pin_one {M : Tab} {rows : List (List D)} (h : M 900 = some (.row rows)) : ∀ k r, [rows][k]? = some r → M (900 + k) = some (.row r) := by
  intro k r hr
  match k with
  | 0 => simp at hr; subst hr; exact h
  | k + 1 => simp at hr
theorem pin_two {M : Tab} {rows rows' : List (List D)} (h : M 900 = some (.row rows)) (h' : M 901 = some (.row rows')) : ∀ k r, [rows, rows'][k]? = some r → M (900 + k) = some (.row r) := by
  intro k r hr
  match k with
  | 0 => simp at hr; subst hr; exact h
  | 1 => simp at hr; subst hr; exact h'
  | k + 2 => simp at hr
abbrev u8Row (n : Int) : List D := [.int .u8 n]
def mkU (k : Int) : Int := IntKind.u8.wrap k
def mkI (k : Int) : Int := k
def mkH (k : Int) : Hp := ⟨k, k + 1, k + 1 + 1, k + 1 + 1 + 1, k + 1 + 1 + 1 + 1⟩
def mkL (k : Int) : Lk := ⟨k, k + 1, k + 1 + 1, k + 1 + 1 + 1, k + 1 + 1 + 1 + 1⟩
def mkA (k : Int) : As := ⟨k, (k + 1).tmod 3 == 0, k + 1 + 1⟩


end Go.Proofs.Ytgdldeggoflabaa

/- The words of this part of the program (r). -/
namespace Go.Proofs.Ytgdldeggoflabaa
open Go.RowKit
set_option linter.unusedSimpArgs false
set_option linter.unusedVariables false
set_option maxRecDepth 100000
def strip (l : List Hp) : List Hp := l.map fun h => ⟨h.asn, h.ing, h.eg, h.ex, 0⟩
def mixS (l : List Hp) (k : Nat) : List (List D) := (strip (l.take k)).map hopRow ++ (l.drop k).map hopRow
end Go.Proofs.Ytgdldeggoflabaa

/- The words of this part of the program (s). -/
namespace Go.Proofs.Ytgdldeggoflabaa
open Go.RowKit
set_option linter.unusedSimpArgs false
set_option linter.unusedVariables false
set_option maxRecDepth 100000
theorem boundQ_eq (ρ : Operand → D) (x : Option Operand) (n : Nat) (K : Nat → Prop) : boundQ ρ x n K = (match x with | none => K n | some o => match ρ o with | .int _ m => 0 ≤ m ∧ K m.toNat | _ => False) := by cases x <;> rfl
end Go.Proofs.Ytgdldeggoflabaa

/- The words of this part of the program (t). -/
namespace Go.Proofs.Ytgdldeggoflabaa
open Go.RowKit
set_option linter.unusedSimpArgs false
set_option linter.unusedVariables false
set_option maxRecDepth 100000
def expF (p : Pl) (ts : Int) : Int := min (IntKind.i64.wrap (ts + p.life)) 1000000
def keyOf (t : Tp) (r : Int) : Int := if hh : realm t r = true then (t.ases[r.toNat]'(realm_lt hh).2).key else 0
def newHop (t : Tp) (p : Pl) (s : Sg) (r inn out : Int) : Hp := authHop (keyOf t r) s.ts (betaAt s s.hops.length) ⟨r, inn, out, expF p s.ts, 0⟩
def grownS (t : Tp) (p : Pl) (s : Sg) (r inn out : Int) : Sg := ⟨s.ts, s.beta, s.hops ++ [newHop t p s r inn out]⟩
def origOk (t : Tp) (p : Pl) (r out ts be : Int) : Bool := coreF t r && inR out 1 6 && (ifKind t r out == 1 || ifKind t r out == 2) && allows p ⟨0, 0, []⟩ out && inR ts 0 1000000 && inR be 0 2147483646
def origSeg (t : Tp) (p : Pl) (r out ts be : Int) : Sg := if origOk t p r out ts be = true then grownS t p ⟨ts, be, []⟩ r 0 out else ⟨0, 0, []⟩
def origIfs (t : Tp) (p : Pl) (r : Int) (k : Nat) : List Int := (List.range k).flatMap fun (i : Nat) => if origOk t p r (1 + (i : Int)) 0 0 then [1 + (i : Int)] else []
end Go.Proofs.Ytgdldeggoflabaa

/- The words of this part of the program (u). -/
namespace Go.Proofs.Ytgdldeggoflabaa
open Go.RowKit
set_option linter.unusedSimpArgs false
set_option linter.unusedVariables false
set_option maxRecDepth 100000
end Go.Proofs.Ytgdldeggoflabaa

/- The words of this part of the program (v). -/
namespace Go.Proofs.Ytgdldeggoflabaa
open Go.RowKit
set_option linter.unusedSimpArgs false
set_option linter.unusedVariables false
set_option maxRecDepth 100000
def wantK (t : Tp) (s : Sg) : Int := if (segKind t s == 2) = true then 2 else 1
def extOk (t : Tp) (p : Pl) (s : Sg) (r inn out : Int) : Bool := canExt t s r inn && inR out 1 6 && !(out == inn) && allows p s out && (ifKind t r out == wantK t s)
def extHops (t : Tp) (p : Pl) (s : Sg) (r inn out : Int) (ok : Bool) : List Hp := if ok = true then (grownS t p s r inn out).hops else s.hops
def terOk (t : Tp) (p : Pl) (s : Sg) (r inn : Int) : Bool := canExt t s r inn && allows p s 0
def egrOk (t : Tp) (p : Pl) (s : Sg) (r inn out : Int) : Bool := extOk t p s r inn out && ((remote t r out).1 != r) && !hasI (ases s.hops) (remote t r out).1
def egrIfs (t : Tp) (p : Pl) (s : Sg) (r inn : Int) (k : Nat) : List Int := (List.range k).flatMap fun (i : Nat) => if egrOk t p s r inn (1 + (i : Int)) then [1 + (i : Int)] else []
end Go.Proofs.Ytgdldeggoflabaa

/- The words of this part of the program (w). -/
namespace Go.Proofs.Ytgdldeggoflabaa
open Go.RowKit
set_option linter.unusedSimpArgs false
set_option linter.unusedVariables false
set_option maxRecDepth 100000
def prefB (a b : Bc) : Bool := if (a.seg.hops.length : Int) != b.seg.hops.length then decide ((a.seg.hops.length : Int) < b.seg.hops.length) else if a.seg.ts != b.seg.ts then decide (b.seg.ts < a.seg.ts) else if digest (segIds a.seg) != digest (segIds b.seg) then decide (digest (segIds a.seg) < digest (segIds b.seg)) else decide (a.ing < b.ing)

end Go.Proofs.Ytgdldeggoflabaa

/- The words of this part of the program (x). -/
namespace Go.Proofs.Ytgdldeggoflabaa
open Go.RowKit
set_option linter.unusedSimpArgs false
set_option linter.unusedVariables false
set_option maxRecDepth 100000
def rdGo (b : List UInt8) (a : Nat) : Nat → Nat → Nat → Option (Nat × Nat)
  | 0, _, _ => none
  | f + 1, k, n => if h : a + k < b.length then
      (if b[a + k].toNat < 128 then (if (b[a + k].toNat = 0 ∧ 0 < k) ∨ 1000000000000 < n + b[a + k].toNat % 128 * 2 ^ (7 * k) then none else some (n + b[a + k].toNat % 128 * 2 ^ (7 * k), a + k + 1))
       else rdGo b a f (k + 1) (n + b[a + k].toNat % 128 * 2 ^ (7 * k))) else none
def readV (b : List UInt8) (a : Int) : Option (Nat × Nat) := if a < 0 then none else rdGo b a.toNat 6 0 0
def rdD : Option (Nat × Nat) → List D
  | none => [.int .i64 0, .int .i64 0, .bool false]
  | some (n, e) => [.int .i64 n, .int .i64 e, .bool true]
end Go.Proofs.Ytgdldeggoflabaa

/- The words of this part of the program (y). -/
namespace Go.Proofs.Ytgdldeggoflabaa
open Go.RowKit
set_option linter.unusedSimpArgs false
set_option linter.unusedVariables false
set_option maxRecDepth 100000
abbrev curE (b : List UInt8) (i : Nat) (h : Int) : Ent := .box [.sl (b.map byteRow), .int .i64 i, .int .i64 h]
def a255 (m : Int) : Nat := (BitVec.ofInt IntKind.i64.bits m &&& BitVec.ofInt IntKind.i64.bits 255).toNat
def lcg (h : Int) : Int := IntKind.i64.wrap (IntKind.i64.wrap (h * 6364136223846793005) + 1442695040888963407)
def mixB (x : Int) : Int := IntKind.i64.wrap (BitVec.ofInt IntKind.i64.bits (x.fdiv (2 ^ min 33 IntKind.i64.bits)) ^^^ BitVec.ofInt IntKind.i64.bits (x.fdiv (2 ^ min 47 IntKind.i64.bits))).toNat
/-- a hop of small numbers -/
def hopS (h : Hp) : Prop := (-8589934592 ≤ h.asn ∧ h.asn ≤ 8589934592) ∧ (-8589934592 ≤ h.ing ∧ h.ing ≤ 8589934592) ∧ (-8589934592 ≤ h.eg ∧ h.eg ≤ 8589934592) ∧ (-8589934592 ≤ h.ex ∧ h.ex ≤ 8589934592) ∧ (-8589934592 ≤ h.mac ∧ h.mac ≤ 8589934592)

end Go.Proofs.Ytgdldeggoflabaa

/- The words of this part of the program (z). -/
namespace Go.Proofs.Ytgdldeggoflabaa
open Go.RowKit
set_option linter.unusedSimpArgs false
set_option linter.unusedVariables false
set_option maxRecDepth 100000
def isdF (t : Tp) (r : Int) : Int := if hh : realm t r = true then (t.ases[r.toNat]'(realm_lt hh).2).isd else 0
def lkOk (t : Tp) (l : Lk) : Bool := realm t l.a && realm t l.b && decide (l.a < l.b) && inR l.ai 1 6 && inR l.bi 1 6 && (if l.kind == 1 then coreF t l.a && coreF t l.b else if l.kind == 2 then (isdF t l.a == isdF t l.b) && !coreF t l.b else (l.kind == 3) && !coreF t l.a && !coreF t l.b)
def putI : List Int → Int → List Int
  | [], n => [n]
  | x :: l, n => if x < n then x :: putI l n else if x = n then x :: l else n :: x :: l
theorem putI_drop {l : List Int} {k : Nat} (h : k < l.length) (n : Int) : putI (l.drop k) n = if l[k] < n then l[k] :: putI (l.drop (k + 1)) n else if l[k] = n then l[k] :: l.drop (k + 1) else n :: l[k] :: l.drop (k + 1) := by
  rw [List.drop_eq_getElem_cons h, putI]
theorem putI_len : ∀ (l : List Int) (n : Int), (putI l n).length ≤ l.length + 1
  | [], n => by simp [putI]
  | x :: l, n => by
    have := putI_len l n
    unfold putI
    split
    · simp; omega
    · split <;> simp
/-- the interfaces of r at the first links -/
def intfL (r : Int) (out : List Int) (l : Lk) : List Int :=
  let o1 := if l.a = r then putI out l.ai else out
  if l.b = r then putI o1 l.bi else o1
def intf (t : Tp) (r : Int) (k : Nat) : List Int := (t.links.take k).foldl (intfL r) []
theorem intf_step (t : Tp) (r : Int) {k : Nat} (h : k < t.links.length) : intf t r (k + 1) = intfL r (intf t r k) t.links[k] := by
  rw [intf, List.take_succ_eq_append_getElem h, List.foldl_append]; rfl
theorem intf_len (t : Tp) (r : Int) : ∀ k, k ≤ t.links.length → (intf t r k).length ≤ 2 * k
  | 0, _ => by simp [intf]
  | k + 1, h => by
    have := intf_len t r k (by omega)
    rw [intf_step t r (by omega), intfL]
    have h1 := putI_len (intf t r k) t.links[k].ai
    have h2 := putI_len (intf t r k) t.links[k].bi
    have h3 := putI_len (putI (intf t r k) t.links[k].ai) t.links[k].bi
    split <;> split <;> omega

end Go.Proofs.Ytgdldeggoflabaa

/- The words of this part of the program (za). -/
namespace Go.Proofs.Ytgdldeggoflabaa
open Go.RowKit
set_option linter.unusedSimpArgs false
set_option linter.unusedVariables false
set_option maxRecDepth 100000
/-- the ends of links -/
def endsL (L : List Lk) : List (Int × Int) := L.flatMap fun l => [(l.a, l.ai), (l.b, l.bi)]
def intfs (L : List Lk) (r : Int) : List Int := L.foldl (intfL r) []
theorem intf_all (t : Tp) (r : Int) : intf t r t.links.length = intfs t.links r := by rw [intf, List.take_length]; rfl
theorem mem_putI : ∀ (l : List Int) (n x : Int), x ∈ putI l n ↔ x = n ∨ x ∈ l
  | [], n, x => by simp [putI]
  | y :: l, n, x => by
    have ih := mem_putI l n x
    unfold putI
    split
    · simp only [List.mem_cons, ih]
      constructor
      · rintro (h | h | h) <;> simp [h]
      · rintro (h | h | h) <;> simp [h]
    · split
      · rename_i h; subst h
        simp only [List.mem_cons]
        constructor
        · rintro (h | h) <;> simp [h]
        · rintro (h | h | h) <;> simp [h]
      · simp only [List.mem_cons]
/-- links as they are drawn: no interface twice, and those of an AS are 1 to some number -/
structure Jt (L : List Lk) : Prop where
  nd : (endsL L).Nodup
  le : ∀ r i, (r, i) ∈ endsL L → 1 ≤ i ∧ i ≤ (intfs L r).length
/-- a link more, where both have an interface left -/
def addL (L : List Lk) (a b k : Int) : List Lk := if (intfs L a).length + 1 ≤ 6 ∧ (intfs L b).length + 1 ≤ 6 then L ++ [⟨a, (intfs L a).length + 1, b, (intfs L b).length + 1, k⟩] else L
/-! sets as numbers -/
theorem cont_nat {s x : Nat} (hs : s < 65536) (hx : x < 16) : cont (s : Int) (x : Int) = s.testBit x := by
  have h1 : inR (s : Int) 0 65535 = true := by simp [inR]; omega
  have h2 : inR (x : Int) 0 15 = true := by simp [inR]; omega
  have hb : IntKind.i64.bits = 64 := rfl
  have hm : min (x : Int).toNat 64 = x := by simp; omega
  have e1 : (s : Int).fdiv (2 ^ x) = ((s / 2 ^ x : Nat) : Int) := by
    have : (2 : Int) ^ x = ((2 ^ x : Nat) : Int) := by simp
    rw [this, Int.fdiv_eq_ediv_of_nonneg _ (Int.natCast_nonneg _)]; rfl
  have h3 : s / 2 ^ x ≤ s := Nat.div_le_self _ _
  unfold cont
  rw [h1, h2, hb, hm, e1, Bool.true_and, Bool.true_and, BitVec.toNat_and, BitVec.ofInt_natCast, BitVec.toNat_ofNat, Nat.mod_eq_of_lt (Nat.lt_of_le_of_lt h3 (by omega))]
  have e2 : (BitVec.ofInt 64 1).toNat = 1 := by decide
  rw [e2, Nat.and_one_is_mod, Nat.testBit_eq_decide_div_mod_eq, wr64 (by omega) (by omega)]
  rcases Nat.mod_two_eq_zero_or_one (s / 2 ^ x) with h | h <;> simp [h]
theorem addE_nat {s x : Nat} (hs : s < 65536) (hx : x < 16) : addE (s : Int) (x : Int) = ((s ||| 2 ^ x : Nat) : Int) := by
  have h1 : inR (s : Int) 0 65535 = true := by simp [inR]; omega
  have h2 : inR (x : Int) 0 15 = true := by simp [inR]; omega
  have hb : IntKind.i64.bits = 64 := rfl
  have hm : min (x : Int).toNat 64 = x := by simp; omega
  have hp : 2 ^ x < 65536 := Nat.pow_lt_pow_right (by decide) hx
  have e1 : (1 : Int) * 2 ^ x = ((2 ^ x : Nat) : Int) := by simp
  generalize 2 ^ x = p at hp e1 ⊢
  have ho : s ||| p < 65536 := Nat.or_lt_two_pow (n := 16) hs hp
  unfold addE
  rw [h1, h2, hb, hm, e1, wr64 (a := (p : Int)) (by omega) (by omega), Bool.true_and, if_pos rfl, BitVec.toNat_or, BitVec.ofInt_natCast, BitVec.ofInt_natCast, BitVec.toNat_ofNat, BitVec.toNat_ofNat, Nat.mod_eq_of_lt (by omega), Nat.mod_eq_of_lt (by omega), wr64 (by omega) (by omega)]
theorem addE_out {s i : Int} (h : ¬ (0 ≤ i ∧ i ≤ 15)) : addE s i = s := by
  have : inR i 0 15 = false := by simp [inR]; omega
  rw [addE, this, Bool.and_false, if_neg (by simp)]
theorem union_nat {a b : Nat} (ha : a < 65536) (hb : b < 65536) : union (a : Int) (b : Int) = ((a ||| b : Nat) : Int) := by
  have h1 : inR (a : Int) 0 65535 = true := by simp [inR]; omega
  have h2 : inR (b : Int) 0 65535 = true := by simp [inR]; omega
  have hb' : IntKind.i64.bits = 64 := rfl
  have ho : a ||| b < 65536 := Nat.or_lt_two_pow (n := 16) ha hb
  unfold union
  rw [h1, h2, hb', Bool.true_and, if_pos rfl, BitVec.toNat_or, BitVec.ofInt_natCast, BitVec.ofInt_natCast, BitVec.toNat_ofNat, BitVec.toNat_ofNat, Nat.mod_eq_of_lt (by omega), Nat.mod_eq_of_lt (by omega), wr64 (by omega) (by omega)]
def insN (s : Nat) (i : Int) : Nat := if 0 ≤ i ∧ i ≤ 15 then s ||| 2 ^ i.toNat else s
def mkSet (l : List Int) : Nat := l.foldl insN 0
theorem insN_lt {s : Nat} (i : Int) (hs : s < 65536) : insN s i < 65536 := by
  unfold insN
  split
  · rename_i h
    exact Nat.or_lt_two_pow (n := 16) hs (Nat.pow_lt_pow_right (by decide) (by omega))
  · exact hs
theorem addE_ins {s : Nat} (i : Int) (hs : s < 65536) : addE (s : Int) i = (insN s i : Int) := by
  unfold insN
  split
  · rename_i h
    obtain ⟨x, rfl⟩ : ∃ x : Nat, i = (x : Int) := ⟨i.toNat, by omega⟩
    exact addE_nat hs (by omega)
  · rename_i h
    exact addE_out h
theorem foldN_lt : ∀ (l : List Int) (s : Nat), s < 65536 → l.foldl insN s < 65536
  | [], s, h => h
  | i :: l, s, h => foldN_lt l _ (insN_lt i h)
theorem mkSet_lt (l : List Int) : mkSet l < 65536 := foldN_lt l 0 (by decide)
theorem mkSet_step (l : List Int) (k : Nat) (h : k < l.length) : mkSet (l.take (k + 1)) = insN (mkSet (l.take k)) l[k] := by
  rw [List.take_succ_eq_append_getElem h]; simp only [mkSet, List.foldl_append, List.foldl_cons, List.foldl_nil]
theorem insN_bit (s k : Nat) (i : Int) (hk : k < 16) : (insN s i).testBit k = (s.testBit k || decide (i = (k : Int))) := by
  unfold insN
  split
  · rename_i h
    rw [Nat.testBit_or, Nat.testBit_two_pow]
    congr 1
    apply decide_eq_decide.2
    omega
  · rename_i h
    have : decide (i = (k : Int)) = false := decide_eq_false (by omega)
    rw [this, Bool.or_false]
theorem foldN_bit (k : Nat) (hk : k < 16) : ∀ (l : List Int) (s : Nat), (l.foldl insN s).testBit k = true ↔ s.testBit k = true ∨ (k : Int) ∈ l
  | [], s => by simp
  | i :: l, s => by
    rw [List.foldl_cons, foldN_bit k hk l, insN_bit s k i hk, Bool.or_eq_true, decide_eq_true_eq, List.mem_cons, or_assoc]
    constructor
    · rintro (h | h | h) <;> simp [h]
    · rintro (h | h | h) <;> simp [h]
theorem mkSet_bit (l : List Int) (k : Nat) (hk : k < 16) : (mkSet l).testBit k = true ↔ (k : Int) ∈ l := by
  rw [mkSet, foldN_bit k hk]; simp
theorem bit_big {s k : Nat} (hs : s < 65536) (hk : 16 ≤ k) : s.testBit k = false := by
  apply Nat.testBit_lt_two_pow
  exact Nat.lt_of_lt_of_le hs (Nat.pow_le_pow_right (n := 2) (by decide) hk)
theorem set_ext {s t : Nat} (hs : s < 65536) (ht : t < 65536) (h : ∀ k, k < 16 → (s.testBit k = true ↔ t.testBit k = true)) : s = t := by
  apply Nat.eq_of_testBit_eq
  intro k
  rcases Nat.lt_or_ge k 16 with hk | hk
  · have := h k hk
    rcases Bool.eq_false_or_eq_true (s.testBit k) with a | a <;> rcases Bool.eq_false_or_eq_true (t.testBit k) with b | b <;> simp_all
  · rw [bit_big hs hk, bit_big ht hk]
theorem mem_elemsK {s : Nat} (hs : s < 65536) (x : Int) : ∀ k, k ≤ 16 → (x ∈ elemsK (s : Int) k ↔ 0 ≤ x ∧ x < k ∧ s.testBit x.toNat = true)
  | 0, _ => by simp [elemsK_zero]; omega
  | k + 1, hk => by
    rw [elemsK_step, List.mem_append, mem_elemsK hs x k (by omega), cont_nat hs (by omega)]
    rcases Bool.eq_false_or_eq_true (s.testBit k) with a | a
    · rw [a, if_pos rfl, List.mem_singleton]
      constructor
      · rintro (h | rfl)
        · exact ⟨h.1, by omega, h.2.2⟩
        · exact ⟨by omega, by omega, by simpa using a⟩
      · rintro ⟨h1, h2, h3⟩
        by_cases e : x = (k : Int)
        · exact .inr e
        · exact .inl ⟨h1, by omega, h3⟩
    · rw [a, if_neg (by simp)]
      simp only [List.not_mem_nil, or_false]
      constructor
      · rintro ⟨h1, h2, h3⟩
        exact ⟨h1, by omega, h3⟩
      · rintro ⟨h1, h2, h3⟩
        refine ⟨h1, ?_, h3⟩
        rcases Int.lt_or_le x k with h | h
        · exact h
        · have : x.toNat = k := by omega
          rw [this, a] at h3; cases h3
theorem mem_elems {s : Nat} (hs : s < 65536) (x : Int) : x ∈ elems (s : Int) ↔ 0 ≤ x ∧ x < 16 ∧ s.testBit x.toNat = true := mem_elemsK hs x 16 (by omega)
theorem elemsK_sorted (s : Int) : ∀ k, (elemsK s k).Pairwise (· < ·) ∧ ∀ x ∈ elemsK s k, x < (k : Int)
  | 0 => by simp [elemsK_zero]
  | k + 1 => by
    obtain ⟨h1, h2⟩ := elemsK_sorted s k
    rw [elemsK_step]
    split
    · refine ⟨?_, ?_⟩
      · rw [List.pairwise_append]
        refine ⟨h1, by simp, ?_⟩
        intro a ha b hb
        rw [List.mem_singleton] at hb
        subst hb
        exact h2 a ha
      · intro x hx
        rcases List.mem_append.1 hx with h | h
        · have := h2 x h; omega
        · rw [List.mem_singleton] at h; omega
    · rw [List.append_nil]
      exact ⟨h1, fun x hx => by have := h2 x hx; omega⟩
theorem sorted_ext : ∀ (l m : List Int), l.Pairwise (· < ·) → m.Pairwise (· < ·) → (∀ x, x ∈ l ↔ x ∈ m) → l = m
  | [], [], _, _, _ => rfl
  | [], b :: m, _, _, h => by have := (h b).2 (by simp); simp at this
  | a :: l, [], _, _, h => by have := (h a).1 (by simp); simp at this
  | a :: l, b :: m, h1, h2, h => by
    rw [List.pairwise_cons] at h1 h2
    have e : a = b := by
      rcases List.mem_cons.1 ((h a).1 (by simp)) with e | e
      · exact e
      · rcases List.mem_cons.1 ((h b).2 (by simp)) with e' | e'
        · exact e'.symm
        · have := h2.1 a e; have := h1.1 b e'; omega
    subst e
    congr 1
    refine sorted_ext l m h1.2 h2.2 fun x => ?_
    constructor
    · intro hx
      rcases List.mem_cons.1 ((h x).1 (by simp [hx])) with e | e
      · subst e; exact absurd (h1.1 x hx) (Int.lt_irrefl x)
      · exact e
    · intro hx
      rcases List.mem_cons.1 ((h x).2 (by simp [hx])) with e | e
      · subst e; exact absurd (h2.1 x hx) (Int.lt_irrefl x)
      · exact e
theorem putI_sorted : ∀ (l : List Int) (n : Int), l.Pairwise (· < ·) → (putI l n).Pairwise (· < ·)
  | [], n, _ => by simp [putI]
  | y :: l, n, h => by
    rw [List.pairwise_cons] at h
    unfold putI
    split
    · rw [List.pairwise_cons]
      refine ⟨?_, putI_sorted l n h.2⟩
      intro z hz
      rcases (mem_putI l n z).1 hz with e | e
      · omega
      · exact h.1 z e
    · split
      · rw [List.pairwise_cons]; exact h
      · rw [List.pairwise_cons, List.pairwise_cons]
        refine ⟨?_, h⟩
        intro z hz
        rcases List.mem_cons.1 hz with e | e
        · omega
        · have := h.1 z e; omega
theorem union_bit (a b k : Nat) : (a ||| b).testBit k = true ↔ a.testBit k = true ∨ b.testBit k = true := by
  rw [Nat.testBit_or, Bool.or_eq_true]
/-! who is near -/
def ifsK (t : Tp) (r kind : Int) : List Int := (intfs t.links r).filter fun x => ifKind t r x == kind
def nbL (t : Tp) (kind r : Int) : List Int := (ifsK t r kind).map fun x => (remote t r x).1
def putN (o : List Int) (f : Int) : List Int := if inR f 0 15 then putI o f else o
def nbrs (t : Tp) (kind r : Int) : List Int := (nbL t kind r).foldl putN []
def nS (t : Tp) (kind r : Int) : Nat := mkSet (nbL t kind r)
theorem nS_lt (t : Tp) (kind r : Int) : nS t kind r < 65536 := mkSet_lt _
theorem foldP : ∀ (l o : List Int), o.Pairwise (· < ·) → (∀ x ∈ o, 0 ≤ x ∧ x ≤ 15) → (l.foldl putN o).Pairwise (· < ·) ∧ ∀ x, x ∈ l.foldl putN o ↔ x ∈ o ∨ (0 ≤ x ∧ x ≤ 15 ∧ x ∈ l)
  | [], o, h, _ => ⟨h, by simp⟩
  | f :: l, o, h, ho => by
    rw [List.foldl_cons]
    by_cases hf : 0 ≤ f ∧ f ≤ 15
    · have e : putN o f = putI o f := by rw [putN, if_pos (by simp [inR]; omega)]
      rw [e]
      have ho' : ∀ x ∈ putI o f, 0 ≤ x ∧ x ≤ 15 := by
        intro x hx
        rcases (mem_putI o f x).1 hx with e | e
        · omega
        · exact ho x e
      obtain ⟨h1, h2⟩ := foldP l (putI o f) (putI_sorted o f h) ho'
      refine ⟨h1, fun x => ?_⟩
      rw [h2, mem_putI, List.mem_cons]
      constructor
      · rintro ((e | e) | ⟨h3, h4, h5⟩)
        · exact .inr ⟨by omega, by omega, .inl e⟩
        · exact .inl e
        · exact .inr ⟨h3, h4, .inr h5⟩
      · rintro (e | ⟨h3, h4, h5 | h5⟩)
        · exact .inl (.inr e)
        · exact .inl (.inl h5)
        · exact .inr ⟨h3, h4, h5⟩
    · have e : putN o f = o := by
        have : inR f 0 15 = false := by simp [inR]; omega
        rw [putN, this, if_neg (by simp)]
      rw [e]
      obtain ⟨h1, h2⟩ := foldP l o h ho
      refine ⟨h1, fun x => ?_⟩
      rw [h2, List.mem_cons]
      constructor
      · rintro (e | ⟨h3, h4, h5⟩)
        · exact .inl e
        · exact .inr ⟨h3, h4, .inr h5⟩
      · rintro (e | ⟨h3, h4, h5 | h5⟩)
        · exact .inl e
        · omega
        · exact .inr ⟨h3, h4, h5⟩
theorem mem_nbrs (t : Tp) (kind r x : Int) : x ∈ nbrs t kind r ↔ 0 ≤ x ∧ x ≤ 15 ∧ x ∈ nbL t kind r := by
  rw [nbrs, (foldP _ [] (by simp) (by simp)).2]; simp
theorem nbrs_eq (t : Tp) (kind r : Int) : nbrs t kind r = elems (nS t kind r : Int) := by
  refine sorted_ext _ _ (foldP _ [] (by simp) (by simp)).1 (elemsK_sorted _ 16).1 fun x => ?_
  rw [mem_nbrs, mem_elems (nS_lt _ _ _)]
  constructor
  · rintro ⟨h1, h2, h3⟩
    refine ⟨h1, by omega, ?_⟩
    rw [nS, mkSet_bit _ _ (by omega), Int.toNat_of_nonneg h1]; exact h3
  · rintro ⟨h1, h2, h3⟩
    rw [nS, mkSet_bit _ _ (by omega), Int.toNat_of_nonneg h1] at h3
    exact ⟨h1, by omega, h3⟩
theorem mkSet_nbrs (t : Tp) (kind r : Int) : mkSet (nbrs t kind r) = nS t kind r := by
  refine set_ext (mkSet_lt _) (nS_lt _ _ _) fun k hk => ?_
  rw [mkSet_bit _ _ hk, mem_nbrs, nS, mkSet_bit _ _ hk]
  constructor
  · exact fun h => h.2.2
  · exact fun h => ⟨by omega, by omega, h⟩
theorem nbrs_len (t : Tp) (kind r : Int) : (nbrs t kind r).length ≤ 16 := by rw [nbrs_eq]; exact elemsK_len _ 16
/-- what lies behind a list -/
def nSL (t : Tp) (kind : Int) (l : List Int) : Nat := l.foldl (fun s r => s ||| nS t kind r) 0
theorem foldU_lt (t : Tp) (kind : Int) : ∀ (l : List Int) (s : Nat), s < 65536 → l.foldl (fun s r => s ||| nS t kind r) s < 65536
  | [], s, h => h
  | r :: l, s, h => foldU_lt t kind l _ (Nat.or_lt_two_pow (n := 16) h (nS_lt _ _ _))
theorem nSL_lt (t : Tp) (kind : Int) (l : List Int) : nSL t kind l < 65536 := foldU_lt t kind l 0 (by decide)
theorem nSL_step (t : Tp) (kind : Int) (l : List Int) (k : Nat) (h : k < l.length) : nSL t kind (l.take (k + 1)) = nSL t kind (l.take k) ||| nS t kind l[k] := by
  rw [List.take_succ_eq_append_getElem h]; simp only [nSL, List.foldl_append, List.foldl_cons, List.foldl_nil]
theorem foldU_bit (t : Tp) (kind : Int) (k : Nat) : ∀ (l : List Int) (s : Nat), (l.foldl (fun s r => s ||| nS t kind r) s).testBit k = true ↔ s.testBit k = true ∨ ∃ r ∈ l, (nS t kind r).testBit k = true
  | [], s => by simp
  | r :: l, s => by
    rw [List.foldl_cons, foldU_bit t kind k l, union_bit]
    constructor
    · rintro ((h | h) | ⟨r', h1, h2⟩)
      · exact .inl h
      · exact .inr ⟨r, by simp, h⟩
      · exact .inr ⟨r', by simp [h1], h2⟩
    · rintro (h | ⟨r', h1, h2⟩)
      · exact .inl (.inl h)
      · rcases List.mem_cons.1 h1 with e | e
        · subst e; exact .inl (.inr h2)
        · exact .inr ⟨r', e, h2⟩
theorem nSL_bit (t : Tp) (kind : Int) (l : List Int) (k : Nat) : (nSL t kind l).testBit k = true ↔ ∃ r ∈ l, (nS t kind r).testBit k = true := by
  rw [nSL, foldU_bit]; simp
theorem foldU_or (t : Tp) (kind : Int) : ∀ (l : List Int) (s : Nat), l.foldl (fun s r => s ||| nS t kind r) s = s ||| nSL t kind l := by
  intro l s
  apply Nat.eq_of_testBit_eq
  intro k
  apply Bool.eq_iff_iff.2
  rw [foldU_bit, union_bit, nSL_bit]
/-- a step from a set -/
def stepS (t : Tp) (kind : Int) (s : Nat) : Nat := nSL t kind (elems (s : Int))
theorem stepS_lt (t : Tp) (kind : Int) (s : Nat) : stepS t kind s < 65536 := nSL_lt _ _ _
theorem stepS_bit (t : Tp) (kind : Int) {s : Nat} (hs : s < 65536) (k : Nat) : (stepS t kind s).testBit k = true ↔ ∃ r : Nat, r < 16 ∧ s.testBit r = true ∧ (nS t kind r).testBit k = true := by
  rw [stepS, nSL_bit]
  constructor
  · rintro ⟨r, h1, h2⟩
    rw [mem_elems hs] at h1
    exact ⟨r.toNat, by omega, h1.2.2, by rw [Int.toNat_of_nonneg h1.1]; exact h2⟩
  · rintro ⟨r, h1, h2, h3⟩
    exact ⟨r, (mem_elems hs _).2 ⟨by omega, by omega, by simpa using h2⟩, h3⟩
theorem stepS_or (t : Tp) (kind : Int) {a b : Nat} (ha : a < 65536) (hb : b < 65536) : stepS t kind (a ||| b) = stepS t kind a ||| stepS t kind b := by
  apply Nat.eq_of_testBit_eq
  intro k
  apply Bool.eq_iff_iff.2
  rw [union_bit, stepS_bit t kind (Nat.or_lt_two_pow (n := 16) ha hb), stepS_bit t kind ha, stepS_bit t kind hb]
  constructor
  · rintro ⟨r, h1, h2, h3⟩
    rcases (union_bit a b r).1 h2 with h | h
    · exact .inl ⟨r, h1, h, h3⟩
    · exact .inr ⟨r, h1, h, h3⟩
  · rintro (⟨r, h1, h2, h3⟩ | ⟨r, h1, h2, h3⟩)
    · exact ⟨r, h1, (union_bit a b r).2 (.inl h2), h3⟩
    · exact ⟨r, h1, (union_bit a b r).2 (.inr h2), h3⟩
/-- the set that is reached from a list in k steps, and in 1 to k steps -/
def lev (t : Tp) (kind : Int) (l : List Int) : Nat → Nat
  | 0 => 0
  | 1 => nSL t kind l
  | k + 2 => stepS t kind (lev t kind l (k + 1))
def upTo (t : Tp) (kind : Int) (l : List Int) : Nat → Nat
  | 0 => 0
  | k + 1 => upTo t kind l k ||| lev t kind l (k + 1)
theorem lev_lt (t : Tp) (kind : Int) (l : List Int) : ∀ k, lev t kind l k < 65536
  | 0 => by simp [lev]
  | 1 => nSL_lt _ _ _
  | k + 2 => stepS_lt _ _ _
theorem upTo_lt (t : Tp) (kind : Int) (l : List Int) : ∀ k, upTo t kind l k < 65536
  | 0 => by simp [upTo]
  | k + 1 => Nat.or_lt_two_pow (n := 16) (upTo_lt t kind l k) (lev_lt t kind l (k + 1))
theorem stepS_zero (t : Tp) (kind : Int) : stepS t kind 0 = 0 := by
  apply Nat.eq_of_testBit_eq
  intro k
  apply Bool.eq_iff_iff.2
  rw [stepS_bit t kind (by decide)]; simp
theorem upTo_step (t : Tp) (kind : Int) (l : List Int) : ∀ k, upTo t kind l (k + 1) = nSL t kind l ||| stepS t kind (upTo t kind l k)
  | 0 => by simp [upTo, lev, stepS_zero]
  | k + 1 => by
    have ih := upTo_step t kind l k
    have e3 := stepS_or t kind (upTo_lt t kind l k) (lev_lt t kind l (k + 1))
    show upTo t kind l (k + 1) ||| lev t kind l (k + 2) = nSL t kind l ||| stepS t kind (upTo t kind l k ||| lev t kind l (k + 1))
    rw [e3, ← Nat.or_assoc, ← ih]
    rfl
/-- the other way round: from a set, again and again -/
def reachS (t : Tp) (kind : Int) (s : Nat) : Nat → Nat
  | 0 => s
  | k + 1 => reachS t kind s k ||| stepS t kind (reachS t kind s k)
theorem reachS_lt (t : Tp) (kind : Int) {s : Nat} (h : s < 65536) : ∀ k, reachS t kind s k < 65536
  | 0 => h
  | k + 1 => Nat.or_lt_two_pow (n := 16) (reachS_lt t kind h k) (stepS_lt _ _ _)
theorem reach_eq (t : Tp) (kind : Int) (l : List Int) : ∀ k, reachS t kind (nSL t kind l) k = upTo t kind l (k + 1)
  | 0 => by simp [reachS, upTo, lev]
  | k + 1 => by
    have e1 := upTo_step t kind l (k + 1)
    have e2 := upTo_step t kind l k
    have e3 : stepS t kind (upTo t kind l (k + 1)) = stepS t kind (upTo t kind l k) ||| stepS t kind (lev t kind l (k + 1)) := stepS_or t kind (upTo_lt _ _ _ _) (lev_lt _ _ _ _)
    rw [reachS, reach_eq t kind l k, e1]
    apply Nat.eq_of_testBit_eq
    intro j
    apply Bool.eq_iff_iff.2
    rw [union_bit, union_bit]
    constructor
    · rintro (h | h)
      · rw [e2, union_bit] at h
        rcases h with h | h
        · exact .inl h
        · right; rw [e3, union_bit]; exact .inl h
      · exact .inr h
    · rintro (h | h)
      · left; rw [e2, union_bit]; exact .inl h
      · exact .inr h
theorem ifsK_all (t : Tp) (r kind : Int) (k : Nat) (h : k < (intfs t.links r).length) : ((intfs t.links r).take (k + 1)).filter (fun x => ifKind t r x == kind) = ((intfs t.links r).take k).filter (fun x => ifKind t r x == kind) ++ (if ifKind t r (intfs t.links r)[k] == kind then [(intfs t.links r)[k]] else []) := by
  rw [List.take_succ_eq_append_getElem h, List.filter_append]
  congr 1
  simp only [List.filter_cons, List.filter_nil]
theorem intfs_len (t : Tp) (r : Int) : (intfs t.links r).length ≤ 2 * t.links.length := by
  rw [← intf_all]; exact intf_len t r _ (Nat.le_refl _)
theorem filt_len (t : Tp) (r kind : Int) (k : Nat) : (((intfs t.links r).take k).filter (fun x => ifKind t r x == kind)).length ≤ 2 * t.links.length := by
  have h1 := List.length_filter_le (fun x => ifKind t r x == kind) ((intfs t.links r).take k)
  have h2 := intfs_len t r
  rw [List.length_take] at h1
  omega
theorem ifsK_len (t : Tp) (r kind : Int) : (ifsK t r kind).length ≤ 2 * t.links.length :=
  Nat.le_trans (List.length_filter_le _ _) (intfs_len t r)
def nbK (t : Tp) (kind r : Int) (k : Nat) : List Int := (((ifsK t r kind).take k).map fun x => (remote t r x).1).foldl putN []
theorem nbK_step (t : Tp) (kind r : Int) (k : Nat) (h : k < (ifsK t r kind).length) : nbK t kind r (k + 1) = putN (nbK t kind r k) (remote t r (ifsK t r kind)[k]).1 := by
  rw [nbK, List.take_succ_eq_append_getElem h, List.map_append, List.foldl_append]; rfl
theorem nbK_all (t : Tp) (kind r : Int) : nbK t kind r (ifsK t r kind).length = nbrs t kind r := by rw [nbK, List.take_length]; rfl
theorem nbK_len (t : Tp) (kind r : Int) : ∀ k, k ≤ (ifsK t r kind).length → (nbK t kind r k).length ≤ k
  | 0, _ => by simp [nbK]
  | k + 1, h => by
    have ih := nbK_len t kind r k (by omega)
    rw [nbK_step t kind r k h, putN]
    split
    · have := putI_len (nbK t kind r k) (remote t r (ifsK t r kind)[k]).1; omega
    · omega
def nSK (t : Tp) (kind r : Int) (k : Nat) : Nat := mkSet (((ifsK t r kind).take k).map fun x => (remote t r x).1)
theorem nSK_step (t : Tp) (kind r : Int) (k : Nat) (h : k < (ifsK t r kind).length) : nSK t kind r (k + 1) = insN (nSK t kind r k) (remote t r (ifsK t r kind)[k]).1 := by
  rw [nSK, List.take_succ_eq_append_getElem h, List.map_append, mkSet, List.foldl_append]; rfl
theorem nSK_lt (t : Tp) (kind r : Int) (k : Nat) : nSK t kind r k < 65536 := mkSet_lt _
theorem nSK_all (t : Tp) (kind r : Int) : nSK t kind r (ifsK t r kind).length = nS t kind r := by rw [nSK, List.take_length]; rfl
theorem elems_len (s : Int) : (elems s).length ≤ 16 := elemsK_len s 16

theorem foldU_step (t : Tp) (kind : Int) (s : Nat) (l : List Int) (k : Nat) (h : k < l.length) : (l.take (k + 1)).foldl (fun s r => s ||| nS t kind r) s = (l.take k).foldl (fun s r => s ||| nS t kind r) s ||| nS t kind l[k] := by
  rw [List.take_succ_eq_append_getElem h]; simp only [List.foldl_append, List.foldl_cons, List.foldl_nil]
theorem reachS_step (t : Tp) (kind : Int) (s : Nat) (k : Nat) : (elems (reachS t kind s k : Nat)).foldl (fun s r => s ||| nS t kind r) (reachS t kind s k) = reachS t kind s (k + 1) := by
  rw [foldU_or]; rfl
def rCores (t : Tp) (r : Int) : List Int := (elems (addE (upTo t 3 [r] 10 : Nat) r)).filter fun x => coreF t x
theorem filt_step (t : Tp) (l : List Int) (k : Nat) (h : k < l.length) : (l.take (k + 1)).filter (fun x => coreF t x) = (l.take k).filter (fun x => coreF t x) ++ (if coreF t l[k] = true then [l[k]] else []) := by
  rw [List.take_succ_eq_append_getElem h, List.filter_append]
  congr 1
  simp only [List.filter_cons, List.filter_nil]
theorem filt_le (t : Tp) (l : List Int) (k : Nat) : ((l.take k).filter (fun x => coreF t x)).length ≤ k := by
  have := List.length_filter_le (fun x => coreF t x) (l.take k)
  rw [List.length_take] at this
  omega
theorem rCores_len (t : Tp) (r : Int) : (rCores t r).length ≤ 16 := Nat.le_trans (List.length_filter_le _ _) (elems_len _)

end Go.Proofs.Ytgdldeggoflabaa

/- The words of this part of the program (zb). -/
namespace Go.Proofs.Ytgdldeggoflabaa
open Go.RowKit
set_option linter.unusedSimpArgs false
set_option linter.unusedVariables false
set_option maxRecDepth 100000
/-- a topology that is drawn -/
structure Dt (t : Tp) : Prop where
  n1 : 1 ≤ t.ases.length
  n8 : t.ases.length ≤ 8
  ln : t.links.length ≤ 64
  ok : ∀ l ∈ t.links, lkOk t l = true
  nd : (endsL t.links).Nodup
  w : ∀ a ∈ t.ases, asW a
def fnd : List Int → Int → Bool
  | [], _ => false
  | x :: l, n => if x < n then fnd l n else x == n
/-- a topology that is drawn and may have been turned a little -/
structure Ds (t : Tp) : Prop where
  n8 : t.ases.length ≤ 8
  ln : t.links.length ≤ 65
  w : tpW t
theorem Dt.s {t : Tp} (h : Dt t) : Ds t := by
  refine ⟨h.n8, by have := h.ln; omega, h.w, ?_⟩
  intro l hl
  have := h.ok l hl
  simp only [lkOk, realm, inR, Bool.and_eq_true, decide_eq_true_eq] at this
  obtain ⟨⟨⟨⟨⟨h1, h2⟩, h3⟩, h4⟩, h5⟩, h6⟩ := this
  have h7 : l.kind = 1 ∨ l.kind = 2 ∨ l.kind = 3 := by
    by_cases k1 : (l.kind == 1) = true
    · left; simpa using k1
    · by_cases k2 : (l.kind == 2) = true
      · right; left; simpa using k2
      · rw [if_neg k1, if_neg k2] at h6
        simp only [Bool.and_eq_true, beq_iff_eq] at h6
        right; right; exact h6.1.1
  have := h.n8
  unfold lkW i64R
  omega
end Go.Proofs.Ytgdldeggoflabaa

/- The words of this part of the program (zc). -/
namespace Go.Proofs.Ytgdldeggoflabaa
open Go.RowKit
set_option linter.unusedSimpArgs false
set_option linter.unusedVariables false
set_option maxRecDepth 100000
end Go.Proofs.Ytgdldeggoflabaa

/- The words of this part of the program (zd). -/
namespace Go.Proofs.Ytgdldeggoflabaa
open Go.RowKit
set_option linter.unusedSimpArgs false
set_option linter.unusedVariables false
set_option maxRecDepth 100000
/-- a policy that is drawn -/
def Pd (p : Pl) : Prop := (2 ≤ p.ml ∧ p.ml ≤ 8) ∧ (50 ≤ p.life ∧ p.life ≤ 149)
end Go.Proofs.Ytgdldeggoflabaa

/- The words of this part of the program (ze). -/
namespace Go.Proofs.Ytgdldeggoflabaa
open Go.RowKit
set_option linter.unusedSimpArgs false
set_option linter.unusedVariables false
set_option maxRecDepth 100000
/-- x is a parent of y -/
def Par (t : Tp) (x y : Int) : Prop := ∃ l ∈ t.links, l.kind = 2 ∧ l.a = x ∧ l.b = y
/-- a path of n steps from x down to y -/
def Pth (t : Tp) : Nat → Int → Int → Prop
  | 0, x, y => x = y
  | n + 1, x, y => ∃ z, Par t x z ∧ Pth t n z y
def anc (t : Tp) (r : Int) : Nat := upTo t 3 [r] 10
def desc (t : Tp) (r : Int) : Nat := upTo t 2 [r] 10
/-- how far up -/
def depGo (t : Tp) (r : Int) : Nat → Nat → Nat
  | 0, k => k
  | f + 1, k => if lev t 3 [r] (k + 1) = 0 then k else depGo t r f (k + 1)
def depth (t : Tp) (r : Int) : Nat := depGo t r 8 0
def cComp (t : Tp) (r : Int) : Nat := if coreF t r = true then insN (upTo t 1 [r] 9) r else 0
end Go.Proofs.Ytgdldeggoflabaa

/- The words of this part of the program (zf). -/
namespace Go.Proofs.Ytgdldeggoflabaa
open Go.RowKit
set_option linter.unusedSimpArgs false
set_option linter.unusedVariables false
set_option maxRecDepth 100000
/-- what a valid segment is -/
structure Vs (t : Tp) (s : Sg) (k : Int) : Prop where
  well : wellF t s = true
  ver : ∀ i, i < s.hops.length → verAt t s i = true
  core : coreF t (s.hops.getD 0 hz).asn = true
  knd : kindF t s.hops 0 = some k
  k12 : k = 1 ∨ k = 2
  ts : 0 ≤ s.ts ∧ s.ts ≤ 1000000
  be : 0 ≤ s.beta ∧ s.beta ≤ 2147483646
/-- the core ASes -/
def coresK (t : Tp) (k : Nat) : List Int := (List.range k).flatMap fun (i : Nat) => if coreF t i then [(i : Int)] else []
/-- a segment that is drawn -/
structure Gs (t : Tp) (kind : Int) (s : Sg) : Prop where
  ts : 0 ≤ s.ts ∧ s.ts ≤ 49
  be : 0 ≤ s.beta ∧ s.beta ≤ 999999
  len : s.hops.length ≤ 5
  ok : s.hops = [] ∨ Vs t s kind
/-- so far -/
structure Gi (t : Tp) (kind ts be : Int) (k : Nat) (H : List Hp) (r inn : Int) : Prop where
  len : H.length = k
  rl : realm t r = true
  fst : k = 0 → inn = 0 ∧ coreF t r = true
  nxt : 0 < k → (1 ≤ inn ∧ inn ≤ 6) ∧ Vs t ⟨ts, be, H⟩ kind ∧ (H.getD (H.length - 1) hz).eg ≠ 0 ∧ hasI (ases H) r = false ∧ remote t (H.getD (H.length - 1) hz).asn (H.getD (H.length - 1) hz).eg = (r, inn)
/-- the hop of the round -/
def grHop (t : Tp) (ts be : Int) (H : List Hp) (r inn out ex : Int) : Hp := authHop (keyOf t r) ts (betaAt ⟨ts, be, H⟩ H.length) ⟨r, inn, out, ex, 0⟩
end Go.Proofs.Ytgdldeggoflabaa
