/- The words of this program. -/
import Derived.Test.YtbinljboomkkdaaMP
import Derived.Test.YtbinljboomkkdaaProg
/- The words of this part of the program (a). -/
namespace Go.Proofs.Ytbinljboomkkdaa
open Go.RowKit
set_option linter.unusedSimpArgs false
set_option linter.unusedVariables false
set_option maxRecDepth 100000
set_option linter.defProp false
theorem ti3 : tI Try.prog 3 = ⟨.int .i64, 1, [.int .i64 0]⟩ := by kernel_rfl
theorem ti4 : tI Try.prog 4 = ⟨.bool, 1, [.bool false]⟩ := by kernel_rfl
theorem ti5 : tI Try.prog 5 = ⟨.int .u8, 1, [.int .u8 0]⟩ := by kernel_rfl
theorem ti9 : tI Try.prog 9 = ⟨.str, 1, [.str []]⟩ := by kernel_rfl
theorem ti22 : tI Try.prog 22 = ⟨.slice 5 1 1 [.int .u8 0], 1, [.nl]⟩ := by kernel_rfl
theorem ct22 : ctOf Try.prog 8 22 = some [.slice [.int .u8]] := by kernel_rfl
theorem ti24 : tI Try.prog 24 = ⟨.struct [(0, 1), (1, 1), (2, 1), (3, 1), (4, 1)], 5, [.int .i64 0, .int .i64 0, .int .i64 0, .int .i64 0, .int .i64 0]⟩ := by kernel_rfl
theorem ti27 : tI Try.prog 27 = ⟨.struct [(0, 1), (1, 1), (2, 1), (3, 1), (4, 1)], 5, [.int .i64 0, .int .i64 0, .int .i64 0, .int .i64 0, .int .i64 0]⟩ := by kernel_rfl
theorem ti36 : tI Try.prog 36 = ⟨.slice 24 5 40 [.int .i64 0, .int .i64 0, .int .i64 0, .int .i64 0, .int .i64 0], 1, [.nl]⟩ := by kernel_rfl
theorem ti38 : tI Try.prog 38 = ⟨.struct [(0, 1), (1, 1), (2, 1)], 3, [.int .i64 0, .int .i64 0, .nl]⟩ := by kernel_rfl
theorem ti40 : tI Try.prog 40 = ⟨.slice 27 5 40 [.int .i64 0, .int .i64 0, .int .i64 0, .int .i64 0, .int .i64 0], 1, [.nl]⟩ := by kernel_rfl
theorem ti43 : tI Try.prog 43 = ⟨.struct [(0, 1), (1, 1), (2, 1)], 3, [.int .i64 0, .int .i64 0, .nl]⟩ := by kernel_rfl
theorem ti50 : tI Try.prog 50 = ⟨.slice 3 1 8 [.int .i64 0], 1, [.nl]⟩ := by kernel_rfl
theorem ti57 : tI Try.prog 57 = ⟨.struct [(0, 1), (1, 3)], 4, [.int .i64 0, .int .i64 0, .int .i64 0, .nl]⟩ := by kernel_rfl
theorem ti61 : tI Try.prog 61 = ⟨.struct [(0, 1), (1, 3)], 4, [.int .i64 0, .int .i64 0, .int .i64 0, .nl]⟩ := by kernel_rfl
theorem ti64 : tI Try.prog 64 = ⟨.slice 183 3 24 [.int .i64 0, .bool false, .int .i64 0], 1, [.nl]⟩ := by kernel_rfl
theorem ti65 : tI Try.prog 65 = ⟨.slice 185 5 40 [.int .i64 0, .int .i64 0, .int .i64 0, .int .i64 0, .int .i64 0], 1, [.nl]⟩ := by kernel_rfl
theorem ti67 : tI Try.prog 67 = ⟨.struct [(0, 1), (1, 1)], 2, [.nl, .nl]⟩ := by kernel_rfl
theorem ti69 : tI Try.prog 69 = ⟨.struct [(0, 1), (1, 1), (2, 1), (3, 1)], 4, [.int .i64 0, .int .i64 0, .int .i64 0, .int .i64 0]⟩ := by kernel_rfl
theorem ti73 : tI Try.prog 73 = ⟨.slice 102 3 24 [.int .i64 0, .bool false, .int .i64 0], 1, [.nl]⟩ := by kernel_rfl
theorem ti74 : tI Try.prog 74 = ⟨.slice 173 5 40 [.int .i64 0, .int .i64 0, .int .i64 0, .int .i64 0, .int .i64 0], 1, [.nl]⟩ := by kernel_rfl
theorem ti76 : tI Try.prog 76 = ⟨.struct [(0, 1), (1, 1)], 2, [.nl, .nl]⟩ := by kernel_rfl
theorem ti78 : tI Try.prog 78 = ⟨.struct [(0, 1), (1, 1), (2, 1), (3, 1)], 4, [.int .i64 0, .int .i64 0, .int .i64 0, .int .i64 0]⟩ := by kernel_rfl
theorem ti102 : tI Try.prog 102 = ⟨.struct [(0, 1), (1, 1), (2, 1)], 3, [.int .i64 0, .bool false, .int .i64 0]⟩ := by kernel_rfl
theorem ti125 : tI Try.prog 125 = ⟨.slice 78 4 32 [.int .i64 0, .int .i64 0, .int .i64 0, .int .i64 0], 1, [.nl]⟩ := by kernel_rfl
theorem ti170 : tI Try.prog 170 = ⟨.int .u64, 1, [.int .u64 0]⟩ := by kernel_rfl
theorem ti173 : tI Try.prog 173 = ⟨.struct [(0, 1), (1, 1), (2, 1), (3, 1), (4, 1)], 5, [.int .i64 0, .int .i64 0, .int .i64 0, .int .i64 0, .int .i64 0]⟩ := by kernel_rfl
theorem ti183 : tI Try.prog 183 = ⟨.struct [(0, 1), (1, 1), (2, 1)], 3, [.int .i64 0, .bool false, .int .i64 0]⟩ := by kernel_rfl
theorem ti185 : tI Try.prog 185 = ⟨.struct [(0, 1), (1, 1), (2, 1), (3, 1), (4, 1)], 5, [.int .i64 0, .int .i64 0, .int .i64 0, .int .i64 0, .int .i64 0]⟩ := by kernel_rfl
theorem ti190 : tI Try.prog 190 = ⟨.struct [(0, 1), (1, 1), (2, 1)], 3, [.nl, .int .i64 0, .int .i64 0]⟩ := by kernel_rfl
theorem ti201 : tI Try.prog 201 = ⟨.slice 9 1 16 [.str []], 1, [.nl]⟩ := by kernel_rfl
def bT := And.intro ti3 (And.intro ti4 (And.intro ti5 (And.intro ti9 (And.intro ti22 (And.intro ti24 (And.intro ti27 (And.intro ti36 (And.intro ti38 (And.intro ti40 (And.intro ti43 (And.intro ti50 (And.intro ti57 (And.intro ti61 (And.intro ti64 (And.intro ti65 (And.intro ti67 (And.intro ti69 (And.intro ti73 (And.intro ti74 (And.intro ti76 (And.intro ti78 (And.intro ti102 (And.intro ti125 (And.intro ti170 (And.intro ti173 (And.intro ti183 (And.intro ti185 (And.intro ti190 (ti201)))))))))))))))))))))))))))))
structure Hp where
  asn : Int
  ing : Int
  eg : Int
  ex : Int
  mac : Int
  deriving DecidableEq
structure Pl where
  ml : Int
  den : Int
  clo : Int
  life : Int
  deriving DecidableEq
abbrev hopRow (h : Hp) : List D := [.int .i64 h.asn, .int .i64 h.ing, .int .i64 h.eg, .int .i64 h.ex, .int .i64 h.mac]
abbrev polRow (p : Pl) : List D := [.int .i64 p.ml, .int .i64 p.den, .int .i64 p.clo, .int .i64 p.life]
structure Sg where
  ts : Int
  beta : Int
  hops : List Hp
  deriving DecidableEq
abbrev segRow (s : Sg) : List D := [.int .i64 s.ts, .int .i64 s.beta, .sl (s.hops.map hopRow)]

theorem isRows {α : Type} {f : α → List D} {es : List CT} (hf : ∀ x, IsL es x → ∃ a, x = f a) {x : D} (h : IsC (.slice es) x) : ∃ l : List α, x = .sl (l.map f) ∧ l.length ≤ maxLen := by
  simp only [IsC] at h
  obtain ⟨rows, rfl, hl, hr⟩ := h
  have : ∃ l : List α, rows = l.map f := by
    clear hl
    induction rows with
    | nil => exact ⟨[], rfl⟩
    | cons r rs ih =>
      obtain ⟨l, hl⟩ := ih fun r hr' => hr r (by simp [hr'])
      obtain ⟨a, ha⟩ := hf r (hr r (by simp))
      exact ⟨a :: l, by simp [ha, hl]⟩
  obtain ⟨l, rfl⟩ := this
  exact ⟨l, rfl, by simpa using hl⟩
theorem wr64 {a : Int} (h : -9223372036854775808 ≤ a) (h' : a < 9223372036854775808) : IntKind.i64.wrap a = a := by
  rw [IntKind.wrap_i64]; omega
theorem wrapS {k : Nat} (h : k < 4611686018427387904) : IntKind.i64.wrap ((k : Int) + 1) = (k : Int) + 1 := wr64 (by omega) (by omega)
theorem take_step {α : Type} {l m : List α} {k : Nat} (h : k < l.length) (h' : k < m.length) (ht : l.take k = m.take k) (he : l[k] = m[k]) : l.take (k + 1) = m.take (k + 1) := by
  rw [List.take_succ_eq_append_getElem h, List.take_succ_eq_append_getElem h', ht, he]
/-- rows that are filled from the left -/
def fillR {α : Type} (f : α → List D) (z : List D) (l : List α) (k : Nat) : List (List D) := (l.take k).map f ++ List.replicate (l.length - k) z
section
variable {α : Type} {f : α → List D} {z : List D} {l : List α} {k : Nat}
end
theorem getD_map_lt {α : Type} {f : α → List D} {l : List α} {k : Nat} (h : k < l.length) : (l.map f).getD k [] = f l[k] := by simp [List.getD, h]

theorem eq_hop : AggEq Try.prog 27 5 := aggEq_of (by kernel_rfl)

def inR (a b c : Int) : Bool := decide (b ≤ a) && decide (a ≤ c)

def firstAS (s : Sg) : Int := match s.hops with | [] => -1 | h :: _ => h.asn
def lastAS (s : Sg) : Int := if h : 0 < s.hops.length then s.hops[s.hops.length - 1].asn else -1
def isTerm (s : Sg) : Bool := if h : 0 < s.hops.length then s.hops[s.hops.length - 1].eg == 0 else false
theorem wrapP {n : Nat} (h : 0 < n) (h' : n < 4611686018427387904) : IntKind.i64.wrap ((n : Int) - 1) = ((n - 1 : Nat) : Int) := by
  rw [wr64 (by omega) (by omega)]; omega

end Go.Proofs.Ytbinljboomkkdaa

/- The words of this part of the program (b). -/
namespace Go.Proofs.Ytbinljboomkkdaa
open Go.RowKit
set_option linter.unusedSimpArgs false
set_option linter.unusedVariables false
set_option maxRecDepth 100000
def union (a b : Int) : Int := if inR a 0 65535 && inR b 0 65535 then IntKind.i64.wrap (BitVec.ofInt IntKind.i64.bits a ||| BitVec.ofInt IntKind.i64.bits b).toNat else 0
def validPol (p : Pl) : Bool := inR p.ml 1 8 && inR p.den 0 65535 && inR p.clo 0 65535 && inR p.life 1 1000
def validHop (h : Hp) : Bool := inR h.asn 0 7 && inR h.ing 0 6 && inR h.eg 0 6 && (h.ing != h.eg) && inR h.ex 0 1000000 && inR h.mac 0 2147483646
def defPol : Pl := ⟨8, 0, 0, 100⟩

def polFor (l : List Pl) (r : Int) : Pl := if h : 0 ≤ r ∧ r.toNat < l.length then (if validPol l[r.toNat] then l[r.toNat] else defPol) else defPol

end Go.Proofs.Ytbinljboomkkdaa

/- The words of this part of the program (c). -/
namespace Go.Proofs.Ytbinljboomkkdaa
open Go.RowKit
set_option linter.unusedSimpArgs false
set_option linter.unusedVariables false
set_option maxRecDepth 100000
/-- the least expiry -/
def leastEx : List Hp → Int
  | [] => 0
  | h :: t => t.foldl (fun m x => min m x.ex) h.ex
end Go.Proofs.Ytbinljboomkkdaa

/- The words of this part of the program (d). -/
namespace Go.Proofs.Ytbinljboomkkdaa
open Go.RowKit
set_option linter.unusedSimpArgs false
set_option linter.unusedVariables false
set_option maxRecDepth 100000
abbrev intRow (n : Int) : List D := [.int .i64 n]
theorem rowLen_map {α : Type} {f : α → List D} {s : Nat} {l : List α} (h : ∀ a, (f a).length = s) : RowLen (l.map f) s := by
  intro r hr
  obtain ⟨a, _, rfl⟩ := List.mem_map.1 hr
  exact h a
theorem rowLen_ints (l : List Int) : RowLen (l.map intRow) 1 := rowLen_map fun _ => rfl
theorem rowLen_nil (s : Nat) : RowLen [] s := by intro r hr; simp at hr
theorem rowLen_cons (r : List D) (l : List (List D)) (s : Nat) : RowLen (r :: l) s = (r.length = s ∧ RowLen l s) := by simp [RowLen]
theorem rowLen_append (l m : List (List D)) (s : Nat) : RowLen (l ++ m) s = (RowLen l s ∧ RowLen m s) := by
  simp only [RowLen, List.mem_append, eq_iff_iff]
  exact ⟨fun h => ⟨fun r hr => h r (.inl hr), fun r hr => h r (.inr hr)⟩, fun h r hr => hr.elim (h.1 r) (h.2 r)⟩

def modZ (n m : Int) : Int := if inR m 1 1000000000000 then (IntKind.i64.wrap (n.tmod m + m)).tmod m else 0
def digStep (d x : Int) : Int := (IntKind.i64.wrap (IntKind.i64.wrap (IntKind.i64.wrap (d * 1000003) + modZ x 2147483647) + 11)).tmod 2147483647
def digest (l : List Int) : Int := l.foldl digStep 7
def mac (key : Int) (l : List Int) : Int := digest (key :: (l ++ [key]))

def hopMac (key ts be : Int) (h : Hp) : Int := mac key [ts, be, h.asn, h.ing, h.eg, h.ex]
def authHop (key ts be : Int) (h : Hp) : Hp := ⟨h.asn, h.ing, h.eg, h.ex, hopMac key ts be h⟩

end Go.Proofs.Ytbinljboomkkdaa

/- The words of this part of the program (e). -/
namespace Go.Proofs.Ytbinljboomkkdaa
open Go.RowKit
set_option linter.unusedSimpArgs false
set_option linter.unusedVariables false
set_option maxRecDepth 100000
def segIds (s : Sg) : List Int := s.ts :: s.beta :: s.hops.flatMap fun h => [h.asn, h.ing, h.eg, h.ex]
abbrev idsK (s : Sg) (k : Nat) : List Int := segIds ⟨s.ts, s.beta, s.hops.take k⟩
def encodable (s : Sg) : Bool := inR s.ts 0 1000000 && inR s.beta 0 2147483646 && decide (s.hops.length ≤ 8) && s.hops.all validHop
end Go.Proofs.Ytbinljboomkkdaa

/- The words of this part of the program (f). -/
namespace Go.Proofs.Ytbinljboomkkdaa
open Go.RowKit
set_option linter.unusedSimpArgs false
set_option linter.unusedVariables false
set_option maxRecDepth 100000
/-- the digits -/
def digs (m : Nat) : List UInt8 := if h : m < 10 then [UInt8.ofNat (48 + m)] else digs (m / 10) ++ [UInt8.ofNat (48 + m % 10)]
termination_by m
decreasing_by omega
def fmtInt (n : Int) : List UInt8 := if n < 0 then 45 :: digs n.natAbs else digs n.natAbs
abbrev byteRow (b : UInt8) : List D := [.int .u8 b.toNat]
theorem rowLen_bytes (l : List UInt8) : RowLen (l.map byteRow) 1 := rowLen_map fun _ => rfl
theorem bytesOf_map : ∀ (l : List UInt8), bytesOf (l.map byteRow) = some l
  | [] => rfl
  | b :: l => by simp [bytesOf, bytesOf_map l]
theorem bytesOf_cons (b : UInt8) (l : List UInt8) : bytesOf ([.int .u8 b.toNat] :: l.map byteRow) = some (b :: l) := bytesOf_map (b :: l)
theorem bytesOf_one (b : UInt8) : bytesOf [[.int .u8 b.toNat]] = some [b] := bytesOf_map [b]
end Go.Proofs.Ytbinljboomkkdaa

/- The words of this part of the program (g). -/
namespace Go.Proofs.Ytbinljboomkkdaa
open Go.RowKit
set_option linter.unusedSimpArgs false
set_option linter.unusedVariables false
set_option maxRecDepth 100000
def cont (s i : Int) : Bool := inR s 0 65535 && inR i 0 15 && (IntKind.i64.wrap (BitVec.ofInt IntKind.i64.bits (s.fdiv (2 ^ min i.toNat IntKind.i64.bits)) &&& BitVec.ofInt IntKind.i64.bits 1).toNat == 1)
def elemsK (s : Int) (k : Nat) : List Int := (List.range k).flatMap fun (i : Nat) => if cont s i then [(i : Int)] else []
def elems (s : Int) : List Int := elemsK s 16
def joinT (by_ : List UInt8) : List (List UInt8) → List UInt8
  | [] => []
  | x :: l => x ++ (l.flatMap fun y => by_ ++ y)
theorem elemsK_zero (s : Int) : elemsK s 0 = [] := rfl
theorem elemsK_step (s : Int) (k : Nat) : elemsK s (k + 1) = elemsK s k ++ (if cont s k then [(k : Int)] else []) := by
  simp only [elemsK, List.range_succ, List.flatMap_append, List.flatMap_cons, List.flatMap_nil, List.append_nil]
theorem elemsK_len (s : Int) : ∀ k, (elemsK s k).length ≤ k
  | 0 => by simp [elemsK_zero]
  | k + 1 => by
    have := elemsK_len s k
    rw [elemsK_step]; split <;> simp <;> omega
theorem rowLen_strs (l : List (List UInt8)) : RowLen (l.map fun s => [D.str s]) 1 := rowLen_map fun _ => rfl
def fmtPol (p : Pl) : List UInt8 := fmtInt p.ml ++ [32] ++ fmtInt p.life ++ [32, 100] ++ joinT [44] ((elems p.den).map fmtInt) ++ [32, 115] ++ joinT [44] ((elems p.clo).map fmtInt)
def polW (p : Pl) : Prop := (-9223372036854775808 ≤ p.ml ∧ p.ml < 9223372036854775808) ∧ (-9223372036854775808 ≤ p.life ∧ p.life < 9223372036854775808)
end Go.Proofs.Ytbinljboomkkdaa

/- The words of this part of the program (h). -/
namespace Go.Proofs.Ytbinljboomkkdaa
open Go.RowKit
set_option linter.unusedSimpArgs false
set_option linter.unusedVariables false
set_option maxRecDepth 100000
structure As where
  isd : Int
  core : Bool
  key : Int
  deriving DecidableEq
structure Lk where
  a : Int
  ai : Int
  b : Int
  bi : Int
  kind : Int
  deriving DecidableEq
structure Tp where
  ases : List As
  links : List Lk
  deriving DecidableEq
abbrev asRow (x : As) : List D := [.int .i64 x.isd, .bool x.core, .int .i64 x.key]
abbrev lkRow (x : Lk) : List D := [.int .i64 x.a, .int .i64 x.ai, .int .i64 x.b, .int .i64 x.bi, .int .i64 x.kind]
abbrev tpRow (t : Tp) : List D := [.sl (t.ases.map asRow), .sl (t.links.map lkRow)]
def i64R (n : Int) : Prop := -9223372036854775808 ≤ n ∧ n < 9223372036854775808
def hopW (h : Hp) : Prop := i64R h.asn ∧ i64R h.ing ∧ i64R h.eg ∧ i64R h.ex ∧ i64R h.mac
def asW (x : As) : Prop := i64R x.isd ∧ i64R x.key
def lkW (x : Lk) : Prop := i64R x.a ∧ i64R x.ai ∧ i64R x.b ∧ i64R x.bi ∧ i64R x.kind
def segW (s : Sg) : Prop := i64R s.ts ∧ i64R s.beta ∧ ∀ h ∈ s.hops, hopW h
def tpW (t : Tp) : Prop := (∀ x ∈ t.ases, asW x) ∧ (∀ x ∈ t.links, lkW x)
theorem rowLen_hops (l : List Hp) : RowLen (l.map hopRow) 5 := rowLen_map fun _ => rfl
theorem rowLen_ases (l : List As) : RowLen (l.map asRow) 3 := rowLen_map fun _ => rfl
theorem rowLen_links (l : List Lk) : RowLen (l.map lkRow) 5 := rowLen_map fun _ => rfl
def realm (t : Tp) (r : Int) : Bool := inR r 0 ((t.ases.length : Int) - 1)
theorem realm_lt {t : Tp} {r : Int} (h : realm t r = true) : 0 ≤ r ∧ r.toNat < t.ases.length := by
  simp only [realm, inR, Bool.and_eq_true, decide_eq_true_eq] at h
  omega

def verHop (t : Tp) (ts be : Int) (h : Hp) : Bool := validHop h && (if hh : realm t h.asn = true then h.mac == hopMac (t.ases[h.asn.toNat]'(realm_lt hh).2).key ts be h else false)

end Go.Proofs.Ytbinljboomkkdaa

/- The words of this part of the program (i). -/
namespace Go.Proofs.Ytbinljboomkkdaa
open Go.RowKit
set_option linter.unusedSimpArgs false
set_option linter.unusedVariables false
set_option maxRecDepth 100000
def addM2 (b s : Int) : Int := if inR b 0 2147483646 && inR s 0 2147483646 then (IntKind.i64.wrap (b + s)).tmod 2147483647 else 0
def chainA (b : Int) (l : List Int) : Int := l.foldl addM2 b
def macs (l : List Hp) : List Int := l.map Hp.mac
def ases (l : List Hp) : List Int := l.map Hp.asn
def betaAt (s : Sg) (i : Int) : Int := if inR i 0 s.hops.length then chainA s.beta (macs (s.hops.take i.toNat)) else 0

def allows (p : Pl) (s : Sg) (out : Int) : Bool := decide ((s.hops.length : Int) < p.ml) && !cont p.clo out && (ases s.hops).all fun r => !cont p.den r
end Go.Proofs.Ytbinljboomkkdaa

/- The words of this part of the program (j). -/
namespace Go.Proofs.Ytbinljboomkkdaa
open Go.RowKit
set_option linter.unusedSimpArgs false
set_option linter.unusedVariables false
set_option maxRecDepth 100000
structure Bc where
  ing : Int
  seg : Sg
  deriving DecidableEq
abbrev bcRow (b : Bc) : List D := [.int .i64 b.ing, .int .i64 b.seg.ts, .int .i64 b.seg.beta, .sl (b.seg.hops.map hopRow)]
def bcW (b : Bc) : Prop := i64R b.ing ∧ segW b.seg
theorem rowLen_bcs (l : List Bc) : RowLen (l.map bcRow) 4 := rowLen_map fun _ => rfl
/-- how much is left behind a list of beacons -/
def szB (l : List Bc) : Nat := (l.map fun b => b.seg.hops.length).sum
def leftB (l : List Bc) (a : Int) : Int := if a - l.length - szB l < 0 then -1 else a - l.length - szB l

def hasB (l : List Bc) (g : Bc) : Bool := l.any fun x => decide (x = g)
def addE (s i : Int) : Int := if inR s 0 65535 && inR i 0 15 then IntKind.i64.wrap (BitVec.ofInt IntKind.i64.bits s ||| BitVec.ofInt IntKind.i64.bits (IntKind.i64.wrap (1 * 2 ^ min i.toNat IntKind.i64.bits))).toNat else s

def origA (l : List Bc) : Int := l.foldl (fun s b => addE s (firstAS b.seg)) 0
end Go.Proofs.Ytbinljboomkkdaa

/- The words of this part of the program (k). -/
namespace Go.Proofs.Ytbinljboomkkdaa
open Go.RowKit
set_option linter.unusedSimpArgs false
set_option linter.unusedVariables false
set_option maxRecDepth 100000
theorem flat_map {α : Type} {f : α → List D} (hf : ∀ a, (f a).all scal = true) (l : List α) : FlatRows (l.map f) := by
  intro r hr d hd
  obtain ⟨a, _, rfl⟩ := List.mem_map.1 hr
  exact List.all_eq_true.1 (hf a) d hd
def fmtAS (t : Tp) (r : Int) : List UInt8 := if hh : realm t r = true then fmtInt (t.ases[r.toNat]'(realm_lt hh).2).isd ++ [45] ++ fmtInt r else [63]
def fmtHop (t : Tp) (h : Hp) : List UInt8 := fmtAS t h.asn ++ [58] ++ fmtInt h.ing ++ [62] ++ fmtInt h.eg

def vEnc (n : Nat) : List UInt8 := if h : n < 128 then [UInt8.ofNat n] else UInt8.ofNat (n % 128 + 128) :: vEnc (n / 128)
termination_by n
decreasing_by omega
def varI (n : Int) : List UInt8 := if inR n 0 1000000000000 then vEnc n.toNat else []
def encI (l : List Int) : List UInt8 := l.flatMap varI
def hopNs (h : Hp) : List Int := [h.asn, h.ing, h.eg, h.ex, h.mac]
def encHop (h : Hp) : List UInt8 := if validHop h then encI (hopNs h) else []
def encHops (l : List Hp) : List UInt8 := l.flatMap encHop
def encSeg (s : Sg) : List UInt8 := if encodable s then encI [s.ts, s.beta, s.hops.length] ++ encHops s.hops else []

end Go.Proofs.Ytbinljboomkkdaa

/- The words of this part of the program (l). -/
namespace Go.Proofs.Ytbinljboomkkdaa
open Go.RowKit
set_option linter.unusedSimpArgs false
set_option linter.unusedVariables false
set_option maxRecDepth 100000
def ends (l : Lk) (r d : Int) : Bool := (l.a == r && l.ai == d) || (l.b == r && l.bi == d)
/-- the first number below n (counted on from i) at which p holds, or -1 -/
def fstF (p : Nat → Bool) : Nat → Nat → Int
  | 0, _ => -1
  | m + 1, i => if p i then i else fstF p m (i + 1)
theorem fstF_yes {p : Nat → Bool} {n k : Nat} (h : k < n) (hp : p k = true) : fstF p (n - k) k = k := by
  rw [show n - k = (n - (k + 1)) + 1 by omega, fstF, if_pos hp]
theorem fstF_no {p : Nat → Bool} {n k : Nat} (h : k < n) (hp : p k = false) : fstF p (n - k) k = fstF p (n - (k + 1)) (k + 1) := by
  rw [show n - k = (n - (k + 1)) + 1 by omega, fstF, if_neg (by simp [hp])]
theorem fstF_range (p : Nat → Bool) : ∀ (m i : Nat), fstF p m i = -1 ∨ ((i : Int) ≤ fstF p m i ∧ fstF p m i < i + m ∧ p (fstF p m i).toNat = true)
  | 0, _ => .inl rfl
  | m + 1, i => by
    simp only [fstF]
    by_cases h : p i = true
    · rw [if_pos h]; right; exact ⟨by omega, by omega, by simpa using h⟩
    · rw [if_neg h]
      rcases fstF_range p m (i + 1) with e | ⟨e1, e2, e3⟩
      · exact .inl e
      · right; exact ⟨by omega, by omega, e3⟩
def allN (p : Nat → Bool) : Nat → Bool
  | 0 => true
  | n + 1 => allN p n && p n
def lz : Lk := ⟨0, 0, 0, 0, 0⟩
def hz : Hp := ⟨0, 0, 0, 0, 0⟩
theorem getD_lt {α : Type} {l : List α} {k : Nat} {d : α} (h : k < l.length) : l.getD k d = l[k] := by simp [List.getD, h]
def lnk (t : Tp) (r d : Int) : Int := fstF (fun i => ends (t.links.getD i lz) r d) t.links.length 0
theorem lnk_range (t : Tp) (r d : Int) : lnk t r d = -1 ∨ (0 ≤ lnk t r d ∧ (lnk t r d).toNat < t.links.length) := by
  rcases fstF_range (fun i => ends (t.links.getD i lz) r d) t.links.length 0 with e | ⟨e1, e2, _⟩
  · exact .inl e
  · right; unfold lnk; omega
def remote (t : Tp) (r d : Int) : Int × Int :=
  if lnk t r d < 0 then (-1, 0)
  else if ((t.links.getD (lnk t r d).toNat lz).a == r && (t.links.getD (lnk t r d).toNat lz).ai == d) = true then ((t.links.getD (lnk t r d).toNat lz).b, (t.links.getD (lnk t r d).toNat lz).bi)
  else ((t.links.getD (lnk t r d).toNat lz).a, (t.links.getD (lnk t r d).toNat lz).ai)
def ifKind (t : Tp) (r d : Int) : Int :=
  if (d == 0) = true then 5 else if lnk t r d < 0 then 0
  else if ((t.links.getD (lnk t r d).toNat lz).kind == 1) = true then 1 else if ((t.links.getD (lnk t r d).toNat lz).kind == 3) = true then 4
  else if ((t.links.getD (lnk t r d).toNat lz).kind == 2) = true then (if ((t.links.getD (lnk t r d).toNat lz).a == r && (t.links.getD (lnk t r d).toNat lz).ai == d) = true then 2 else 3) else 0
def hasI (l : List Int) (n : Int) : Bool := l.any fun x => x == n
def hopP (t : Tp) (l : List Hp) (i : Nat) : Bool := validHop (l.getD i hz) && realm t (l.getD i hz).asn && !(hasI (ases (l.take i)) (l.getD i hz).asn)
def lnkP (t : Tp) (l : List Hp) (i : Nat) : Bool := !((l.getD i hz).eg == 0 && decide ((i : Int) < (l.length : Int) - 1)) && (!decide (0 < (i : Int)) || ((remote t (l.getD (i - 1) hz).asn (l.getD (i - 1) hz).eg).1 == (l.getD i hz).asn && (remote t (l.getD (i - 1) hz).asn (l.getD (i - 1) hz).eg).2 == (l.getD i hz).ing))
def hopsOkF (t : Tp) (l : List Hp) : Bool := inR l.length 1 8 && allN (hopP t l) l.length
def wellF (t : Tp) (s : Sg) : Bool := hopsOkF t s.hops && ((s.hops.getD 0 hz).ing == 0) && allN (lnkP t s.hops) s.hops.length

end Go.Proofs.Ytbinljboomkkdaa

/- The words of this part of the program (m). -/
namespace Go.Proofs.Ytbinljboomkkdaa
open Go.RowKit
set_option linter.unusedSimpArgs false
set_option linter.unusedVariables false
set_option maxRecDepth 100000
end Go.Proofs.Ytbinljboomkkdaa

/- The words of this part of the program (n). -/
namespace Go.Proofs.Ytbinljboomkkdaa
open Go.RowKit
set_option linter.unusedSimpArgs false
set_option linter.unusedVariables false
set_option maxRecDepth 100000
def verAt (t : Tp) (s : Sg) (i : Nat) : Bool := verHop t s.ts (betaAt s i) (s.hops.getD i hz)
def fstInv (t : Tp) (s : Sg) : Int := fstF (fun i => !verAt t s i) s.hops.length 0
def authBy (t : Tp) (s : Sg) (r : Int) : Bool := !allN (fun i => !((s.hops.getD i hz).asn == r && verAt t s i)) s.hops.length
def coreF (t : Tp) (r : Int) : Bool := if hh : realm t r = true then (t.ases[r.toNat]'(realm_lt hh).2).core else false
def kindF (t : Tp) : List Hp → Int → Option Int
  | [], kd => some kd
  | h :: l, kd => if (h.eg == 0) = true then kindF t l kd else if (kd == 0) = true then kindF t l (ifKind t h.asn h.eg) else if (ifKind t h.asn h.eg == kd) = true then kindF t l kd else none
def kindE : Option Int → Int
  | some k => if (k == 1) = true then 1 else if (k == 2) = true then 2 else 0
  | none => 0
def segKind (t : Tp) (s : Sg) : Int := if (wellF t s && coreF t (s.hops.getD 0 hz).asn) = true then kindE (kindF t s.hops 0) else 0
def validSeg (t : Tp) (s : Sg) : Bool := wellF t s && decide (fstInv t s < 0) && (segKind t s != 0) && inR s.ts 0 1000000 && inR s.beta 0 2147483646
def usable (t : Tp) (s : Sg) (now : Int) : Bool := validSeg t s && isTerm s && decide (s.ts ≤ now) && decide (now ≤ leastEx s.hops)
def canExt (t : Tp) (s : Sg) (r inn : Int) : Bool := realm t r && validSeg t s && !isTerm s && !hasI (ases s.hops) r && ((remote t (s.hops.getD (s.hops.length - 1) hz).asn (s.hops.getD (s.hops.length - 1) hz).eg).1 == r && (remote t (s.hops.getD (s.hops.length - 1) hz).asn (s.hops.getD (s.hops.length - 1) hz).eg).2 == inn)
def stoP (t : Tp) (r : Int) (l : List Bc) (i : Nat) : Bool := canExt t (l.getD i ⟨0, ⟨0, 0, []⟩⟩).seg r (l.getD i ⟨0, ⟨0, 0, []⟩⟩).ing && !hasB (l.take i) (l.getD i ⟨0, ⟨0, 0, []⟩⟩)
def validStore (t : Tp) (r : Int) (l : List Bc) : Bool := decide (l.length ≤ 12) && allN (stoP t r l) l.length
end Go.Proofs.Ytbinljboomkkdaa

/- The words of this part of the program (o). -/
namespace Go.Proofs.Ytbinljboomkkdaa
open Go.RowKit
set_option linter.unusedSimpArgs false
set_option linter.unusedVariables false
set_option maxRecDepth 100000
def oz : Int := 0

end Go.Proofs.Ytbinljboomkkdaa

/- The words of this part of the program (p). -/
namespace Go.Proofs.Ytbinljboomkkdaa
open Go.RowKit
set_option linter.unusedSimpArgs false
set_option linter.unusedVariables false
set_option maxRecDepth 100000
def fmtHops (t : Tp) (l : List Hp) : List (List UInt8) := l.map (fmtHop t)
def fmtSeg (t : Tp) (s : Sg) : List UInt8 := if (s.hops.length == 0) = true then [45] else joinT [32] (fmtHops t s.hops)
end Go.Proofs.Ytbinljboomkkdaa

/- The words of this part of the program (q). -/
namespace Go.Proofs.Ytbinljboomkkdaa
open Go.RowKit
set_option linter.unusedSimpArgs false
set_option linter.unusedVariables false
set_option maxRecDepth 100000
/-- n elements marked from k on, s numbers an element -/
def marks {α : Type} (mk : Int → α) (s : Nat) (k : Int) (n : Nat) : List α := (List.range n).map fun (i : Nat) => mk (k + s * i)
def mixM {α : Type} (f : α → List D) (mk : Int → α) (s : Nat) (k : Int) (l : List α) (j : Nat) : List (List D) := (marks mk s k j).map f ++ (l.drop j).map f
section
variable {α : Type} {f : α → List D} {mk : Int → α} {s : Nat} {k : Int} {l : List α} {j : Nat}
end
abbrev u8Row (n : Int) : List D := [.int .u8 n]
def mkU (k : Int) : Int := IntKind.u8.wrap k
def mkI (k : Int) : Int := k
def mkH (k : Int) : Hp := ⟨k, k + 1, k + 1 + 1, k + 1 + 1 + 1, k + 1 + 1 + 1 + 1⟩
def mkL (k : Int) : Lk := ⟨k, k + 1, k + 1 + 1, k + 1 + 1 + 1, k + 1 + 1 + 1 + 1⟩
def mkA (k : Int) : As := ⟨k, (k + 1).tmod 3 == 0, k + 1 + 1⟩


end Go.Proofs.Ytbinljboomkkdaa

/- The words of this part of the program (r). -/
namespace Go.Proofs.Ytbinljboomkkdaa
open Go.RowKit
set_option linter.unusedSimpArgs false
set_option linter.unusedVariables false
set_option maxRecDepth 100000
theorem isBytes {x : D} (h : IsC (.slice [.int .u8]) x) : ∃ l : List UInt8, x = .sl (l.map byteRow) ∧ l.length ≤ maxLen := by
  refine isRows (fun x h => ?_) h
  simp only [IsL, IsC] at h
  obtain ⟨_, _, rfl, ⟨a, rfl, ha⟩, rfl⟩ := h
  have : 0 ≤ a ∧ a ≤ 255 := by simpa [Lit.wf, IntKind.min, IntKind.max, IntKind.signed, IntKind.bits] using ha
  refine ⟨UInt8.ofNat a.toNat, ?_⟩
  have e : (UInt8.ofNat a.toNat).toNat = a.toNat := by simp; omega
  simp only [byteRow, e, Int.toNat_of_nonneg this.1]

def strip (l : List Hp) : List Hp := l.map fun h => ⟨h.asn, h.ing, h.eg, h.ex, 0⟩
def mixS (l : List Hp) (k : Nat) : List (List D) := (strip (l.take k)).map hopRow ++ (l.drop k).map hopRow
end Go.Proofs.Ytbinljboomkkdaa

/- The words of this part of the program (s). -/
namespace Go.Proofs.Ytbinljboomkkdaa
open Go.RowKit
set_option linter.unusedSimpArgs false
set_option linter.unusedVariables false
set_option maxRecDepth 100000
theorem boundQ_eq (ρ : Operand → D) (x : Option Operand) (n : Nat) (K : Nat → Prop) : boundQ ρ x n K = (match x with | none => K n | some o => match ρ o with | .int _ m => 0 ≤ m ∧ K m.toNat | _ => False) := by cases x <;> rfl
end Go.Proofs.Ytbinljboomkkdaa

/- The words of this part of the program (t). -/
namespace Go.Proofs.Ytbinljboomkkdaa
open Go.RowKit
set_option linter.unusedSimpArgs false
set_option linter.unusedVariables false
set_option maxRecDepth 100000
def expF (p : Pl) (ts : Int) : Int := min (IntKind.i64.wrap (ts + p.life)) 1000000
def keyOf (t : Tp) (r : Int) : Int := if hh : realm t r = true then (t.ases[r.toNat]'(realm_lt hh).2).key else 0
def newHop (t : Tp) (p : Pl) (s : Sg) (r inn out : Int) : Hp := authHop (keyOf t r) s.ts (betaAt s s.hops.length) ⟨r, inn, out, expF p s.ts, 0⟩
def grownS (t : Tp) (p : Pl) (s : Sg) (r inn out : Int) : Sg := ⟨s.ts, s.beta, s.hops ++ [newHop t p s r inn out]⟩
def origOk (t : Tp) (p : Pl) (r out ts be : Int) : Bool := coreF t r && inR out 1 6 && (ifKind t r out == 1 || ifKind t r out == 2) && allows p ⟨0, 0, []⟩ out && inR ts 0 1000000 && inR be 0 2147483646
def origSeg (t : Tp) (p : Pl) (r out ts be : Int) : Sg := if origOk t p r out ts be = true then grownS t p ⟨ts, be, []⟩ r 0 out else ⟨0, 0, []⟩
theorem coreF_realm {t : Tp} {r : Int} (h : coreF t r = true) : realm t r = true := by
  unfold coreF at h; split at h
  · assumption
  · cases h
def origIfs (t : Tp) (p : Pl) (r : Int) (k : Nat) : List Int := (List.range k).flatMap fun (i : Nat) => if origOk t p r (1 + (i : Int)) 0 0 then [1 + (i : Int)] else []
end Go.Proofs.Ytbinljboomkkdaa

/- The words of this part of the program (u). -/
namespace Go.Proofs.Ytbinljboomkkdaa
open Go.RowKit
set_option linter.unusedSimpArgs false
set_option linter.unusedVariables false
set_option maxRecDepth 100000
end Go.Proofs.Ytbinljboomkkdaa

/- The words of this part of the program (v). -/
namespace Go.Proofs.Ytbinljboomkkdaa
open Go.RowKit
set_option linter.unusedSimpArgs false
set_option linter.unusedVariables false
set_option maxRecDepth 100000
def wantK (t : Tp) (s : Sg) : Int := if (segKind t s == 2) = true then 2 else 1
def extOk (t : Tp) (p : Pl) (s : Sg) (r inn out : Int) : Bool := canExt t s r inn && inR out 1 6 && !(out == inn) && allows p s out && (ifKind t r out == wantK t s)
def extHops (t : Tp) (p : Pl) (s : Sg) (r inn out : Int) (ok : Bool) : List Hp := if ok = true then (grownS t p s r inn out).hops else s.hops
def terOk (t : Tp) (p : Pl) (s : Sg) (r inn : Int) : Bool := canExt t s r inn && allows p s 0
def egrOk (t : Tp) (p : Pl) (s : Sg) (r inn out : Int) : Bool := extOk t p s r inn out && ((remote t r out).1 != r) && !hasI (ases s.hops) (remote t r out).1
def egrIfs (t : Tp) (p : Pl) (s : Sg) (r inn : Int) (k : Nat) : List Int := (List.range k).flatMap fun (i : Nat) => if egrOk t p s r inn (1 + (i : Int)) then [1 + (i : Int)] else []
end Go.Proofs.Ytbinljboomkkdaa

/- The words of this part of the program (w). -/
namespace Go.Proofs.Ytbinljboomkkdaa
open Go.RowKit
set_option linter.unusedSimpArgs false
set_option linter.unusedVariables false
set_option maxRecDepth 100000
def prefB (a b : Bc) : Bool := if (a.seg.hops.length : Int) != b.seg.hops.length then decide ((a.seg.hops.length : Int) < b.seg.hops.length) else if a.seg.ts != b.seg.ts then decide (b.seg.ts < a.seg.ts) else if digest (segIds a.seg) != digest (segIds b.seg) then decide (digest (segIds a.seg) < digest (segIds b.seg)) else decide (a.ing < b.ing)

end Go.Proofs.Ytbinljboomkkdaa

/- The words of this part of the program (x). -/
namespace Go.Proofs.Ytbinljboomkkdaa
open Go.RowKit
set_option linter.unusedSimpArgs false
set_option linter.unusedVariables false
set_option maxRecDepth 100000
def rdGo (b : List UInt8) (a : Nat) : Nat → Nat → Nat → Option (Nat × Nat)
  | 0, _, _ => none
  | f + 1, k, n => if h : a + k < b.length then
      (if b[a + k].toNat < 128 then (if (b[a + k].toNat = 0 ∧ 0 < k) ∨ 1000000000000 < n + b[a + k].toNat % 128 * 2 ^ (7 * k) then none else some (n + b[a + k].toNat % 128 * 2 ^ (7 * k), a + k + 1))
       else rdGo b a f (k + 1) (n + b[a + k].toNat % 128 * 2 ^ (7 * k))) else none
def readV (b : List UInt8) (a : Int) : Option (Nat × Nat) := if a < 0 then none else rdGo b a.toNat 6 0 0
def rdD : Option (Nat × Nat) → List D
  | none => [.int .i64 0, .int .i64 0, .bool false]
  | some (n, e) => [.int .i64 n, .int .i64 e, .bool true]
end Go.Proofs.Ytbinljboomkkdaa

/- The words of this part of the program (y). -/
namespace Go.Proofs.Ytbinljboomkkdaa
open Go.RowKit
set_option linter.unusedSimpArgs false
set_option linter.unusedVariables false
set_option maxRecDepth 100000
abbrev curE (b : List UInt8) (i : Nat) (h : Int) : Ent := .box [.sl (b.map byteRow), .int .i64 i, .int .i64 h]
def a255 (m : Int) : Nat := (BitVec.ofInt IntKind.i64.bits m &&& BitVec.ofInt IntKind.i64.bits 255).toNat
theorem a255_le (m : Int) : a255 m ≤ 255 := by
  have hb : IntKind.i64.bits = 64 := rfl
  unfold a255
  rw [hb, BitVec.toNat_and]
  exact Nat.and_le_right
theorem a255_eq (m : Int) : IntKind.i64.wrap (BitVec.ofInt IntKind.i64.bits m &&& BitVec.ofInt IntKind.i64.bits 255).toNat = ((a255 m : Nat) : Int) := by
  have h1 := a255_le m
  unfold a255 at *
  exact wr64 (by omega) (by omega)
def lcg (h : Int) : Int := IntKind.i64.wrap (IntKind.i64.wrap (h * 6364136223846793005) + 1442695040888963407)
theorem lcg_eq (h : Int) : IntKind.i64.wrap (IntKind.i64.wrap (h * 6364136223846793005) + 1442695040888963407) = lcg h := rfl
def mixB (x : Int) : Int := IntKind.i64.wrap (BitVec.ofInt IntKind.i64.bits (x.fdiv (2 ^ min 33 IntKind.i64.bits)) ^^^ BitVec.ofInt IntKind.i64.bits (x.fdiv (2 ^ min 47 IntKind.i64.bits))).toNat
theorem mixB_eq (x : Int) : IntKind.i64.wrap (BitVec.ofInt IntKind.i64.bits (x.fdiv (2 ^ min 33 IntKind.i64.bits)) ^^^ BitVec.ofInt IntKind.i64.bits (x.fdiv (2 ^ min 47 IntKind.i64.bits))).toNat = mixB x := rfl
theorem tmodN (a : Nat) {n : Int} (h : 0 < n) : (a : Int).tmod n = ((a % n.toNat : Nat) : Int) := by
  obtain ⟨m, rfl⟩ : ∃ m : Nat, n = (m : Int) := ⟨n.toNat, by omega⟩
  rw [Int.tmod_eq_emod_of_nonneg (by omega)]
  simp
theorem below3 {a b c : Nat} (ha : a ≤ 255) (hb : b ≤ 255) (hc : c ≤ 255) : IntKind.i64.wrap (IntKind.i64.wrap (IntKind.i64.wrap ((a : Int) * 65536) + IntKind.i64.wrap ((b : Int) * 256)) + (c : Int)) = ((a * 65536 + b * 256 + c : Nat) : Int) := by
  rw [wr64 (a := (a : Int) * 65536) (by omega) (by omega), wr64 (a := (b : Int) * 256) (by omega) (by omega), wr64 (a := (a : Int) * 65536 + (b : Int) * 256) (by omega) (by omega), wr64 (by omega) (by omega)]
  omega
theorem mod_rng (a : Nat) {n : Int} (h : 0 < n) : ((a % n.toNat : Nat) : Int) < n := by
  have := Nat.mod_lt a (show 0 < n.toNat by omega)
  omega

/-- a hop of small numbers -/
def hopS (h : Hp) : Prop := (-8589934592 ≤ h.asn ∧ h.asn ≤ 8589934592) ∧ (-8589934592 ≤ h.ing ∧ h.ing ≤ 8589934592) ∧ (-8589934592 ≤ h.eg ∧ h.eg ≤ 8589934592) ∧ (-8589934592 ≤ h.ex ∧ h.ex ≤ 8589934592) ∧ (-8589934592 ≤ h.mac ∧ h.mac ≤ 8589934592)

end Go.Proofs.Ytbinljboomkkdaa

/- The words of this part of the program (z). -/
namespace Go.Proofs.Ytbinljboomkkdaa
open Go.RowKit
set_option linter.unusedSimpArgs false
set_option linter.unusedVariables false
set_option maxRecDepth 100000
def isdF (t : Tp) (r : Int) : Int := if hh : realm t r = true then (t.ases[r.toNat]'(realm_lt hh).2).isd else 0
def lkOk (t : Tp) (l : Lk) : Bool := realm t l.a && realm t l.b && decide (l.a < l.b) && inR l.ai 1 6 && inR l.bi 1 6 && (if l.kind == 1 then coreF t l.a && coreF t l.b else if l.kind == 2 then (isdF t l.a == isdF t l.b) && !coreF t l.b else (l.kind == 3) && !coreF t l.a && !coreF t l.b)
def putI : List Int → Int → List Int
  | [], n => [n]
  | x :: l, n => if x < n then x :: putI l n else if x = n then x :: l else n :: x :: l
theorem putI_drop {l : List Int} {k : Nat} (h : k < l.length) (n : Int) : putI (l.drop k) n = if l[k] < n then l[k] :: putI (l.drop (k + 1)) n else if l[k] = n then l[k] :: l.drop (k + 1) else n :: l[k] :: l.drop (k + 1) := by
  rw [List.drop_eq_getElem_cons h, putI]
theorem putI_len : ∀ (l : List Int) (n : Int), (putI l n).length ≤ l.length + 1
  | [], n => by simp [putI]
  | x :: l, n => by
    have := putI_len l n
    unfold putI
    split
    · simp; omega
    · split <;> simp
/-- the interfaces of r at the first links -/
def intfL (r : Int) (out : List Int) (l : Lk) : List Int :=
  let o1 := if l.a = r then putI out l.ai else out
  if l.b = r then putI o1 l.bi else o1
def intf (t : Tp) (r : Int) (k : Nat) : List Int := (t.links.take k).foldl (intfL r) []
theorem intf_step (t : Tp) (r : Int) {k : Nat} (h : k < t.links.length) : intf t r (k + 1) = intfL r (intf t r k) t.links[k] := by
  rw [intf, List.take_succ_eq_append_getElem h, List.foldl_append]; rfl
theorem intf_len (t : Tp) (r : Int) : ∀ k, k ≤ t.links.length → (intf t r k).length ≤ 2 * k
  | 0, _ => by simp [intf]
  | k + 1, h => by
    have := intf_len t r k (by omega)
    rw [intf_step t r (by omega), intfL]
    have h1 := putI_len (intf t r k) t.links[k].ai
    have h2 := putI_len (intf t r k) t.links[k].bi
    have h3 := putI_len (putI (intf t r k) t.links[k].ai) t.links[k].bi
    split <;> split <;> omega

end Go.Proofs.Ytbinljboomkkdaa

/- The words of this part of the program (za). -/
namespace Go.Proofs.Ytbinljboomkkdaa
open Go.RowKit
set_option linter.unusedSimpArgs false
set_option linter.unusedVariables false
set_option maxRecDepth 100000
/-- the ends of links -/
def endsL (L : List Lk) : List (Int × Int) := L.flatMap fun l => [(l.a, l.ai), (l.b, l.bi)]
def intfs (L : List Lk) (r : Int) : List Int := L.foldl (intfL r) []
theorem intf_all (t : Tp) (r : Int) : intf t r t.links.length = intfs t.links r := by rw [intf, List.take_length]; rfl
theorem mem_putI : ∀ (l : List Int) (n x : Int), x ∈ putI l n ↔ x = n ∨ x ∈ l
  | [], n, x => by simp [putI]
  | y :: l, n, x => by
    have ih := mem_putI l n x
    unfold putI
    split
    · simp only [List.mem_cons, ih]
      constructor
      · rintro (h | h | h) <;> simp [h]
      · rintro (h | h | h) <;> simp [h]
    · split
      · rename_i h; subst h
        simp only [List.mem_cons]
        constructor
        · rintro (h | h) <;> simp [h]
        · rintro (h | h | h) <;> simp [h]
      · simp only [List.mem_cons]
theorem putI_big : ∀ (l : List Int) (n : Int), (∀ y ∈ l, y < n) → putI l n = l ++ [n]
  | [], n, _ => rfl
  | y :: l, n, h => by
    rw [putI, if_pos (h y (by simp)), putI_big l n (fun z hz => h z (by simp [hz]))]; rfl
theorem intfs_snoc (L : List Lk) (l : Lk) (r : Int) : intfs (L ++ [l]) r = intfL r (intfs L r) l := by rw [intfs, List.foldl_append]; rfl
theorem mem_intfL (r i : Int) (o : List Int) (l : Lk) : i ∈ intfL r o l ↔ i ∈ o ∨ (r, i) = (l.a, l.ai) ∨ (r, i) = (l.b, l.bi) := by
  have h1 : (r, i) = (l.a, l.ai) ↔ l.a = r ∧ i = l.ai := by rw [Prod.mk.injEq]; exact ⟨fun h => ⟨h.1.symm, h.2⟩, fun h => ⟨h.1.symm, h.2⟩⟩
  have h2 : (r, i) = (l.b, l.bi) ↔ l.b = r ∧ i = l.bi := by rw [Prod.mk.injEq]; exact ⟨fun h => ⟨h.1.symm, h.2⟩, fun h => ⟨h.1.symm, h.2⟩⟩
  rw [h1, h2]
  by_cases c1 : l.a = r <;> by_cases c2 : l.b = r
  all_goals simp only [intfL, c1, c2, if_true, if_false, mem_putI, true_and, false_and, or_false, false_or]
  · constructor
    · rintro (h | h | h) <;> simp [h]
    · rintro (h | h | h) <;> simp [h]
  · exact ⟨fun h => h.symm, fun h => h.symm⟩
  · exact ⟨fun h => h.symm, fun h => h.symm⟩
theorem mem_foldI (r i : Int) : ∀ (L : List Lk) (o : List Int), i ∈ L.foldl (intfL r) o ↔ i ∈ o ∨ (r, i) ∈ endsL L
  | [], o => by simp [endsL]
  | l :: L, o => by
    rw [List.foldl_cons, mem_foldI r i L, mem_intfL]
    simp only [endsL, List.flatMap_cons, List.mem_append, List.mem_cons, List.not_mem_nil, or_false, or_assoc]
theorem mem_intfs (L : List Lk) (r i : Int) : i ∈ intfs L r ↔ (r, i) ∈ endsL L := by rw [intfs, mem_foldI]; simp
theorem endsL_snoc (L : List Lk) (l : Lk) : endsL (L ++ [l]) = endsL L ++ [(l.a, l.ai), (l.b, l.bi)] := by simp [endsL]
/-- links as they are drawn: no interface twice, and those of an AS are 1 to some number -/
structure Jt (L : List Lk) : Prop where
  nd : (endsL L).Nodup
  le : ∀ r i, (r, i) ∈ endsL L → 1 ≤ i ∧ i ≤ (intfs L r).length
theorem Jt_nil : Jt [] := ⟨by simp [endsL], by intro r i h; simp [endsL] at h⟩
/-- a link more, where both have an interface left -/
def addL (L : List Lk) (a b k : Int) : List Lk := if (intfs L a).length + 1 ≤ 6 ∧ (intfs L b).length + 1 ≤ 6 then L ++ [⟨a, (intfs L a).length + 1, b, (intfs L b).length + 1, k⟩] else L
theorem addL_len (L : List Lk) (a b k : Int) : (addL L a b k).length ≤ L.length + 1 := by
  unfold addL; split <;> simp
theorem Jt_add {L : List Lk} {a b : Int} (k : Int) (hab : a ≠ b) (h : Jt L) : Jt (addL L a b k) := by
  unfold addL
  split
  · have big : ∀ r, ∀ y ∈ intfs L r, y < ((intfs L r).length : Int) + 1 := by
      intro r y hy
      have := h.le r y ((mem_intfs L r y).1 hy)
      omega
    have fresh : ∀ r, (r, ((intfs L r).length : Int) + 1) ∉ endsL L := by
      intro r hr
      have := h.le r _ hr
      omega
    have len : ∀ r, (intfs L r).length ≤ (intfs (L ++ [⟨a, (intfs L a).length + 1, b, (intfs L b).length + 1, k⟩]) r).length ∧ (r = a ∨ r = b → (intfs (L ++ [⟨a, (intfs L a).length + 1, b, (intfs L b).length + 1, k⟩]) r).length = (intfs L r).length + 1) := by
      intro r
      rw [intfs_snoc]
      simp only [intfL]
      by_cases h1 : a = r
      · subst h1
        rw [if_pos rfl, if_neg (fun e => hab e.symm), putI_big _ _ (big a)]
        simp
      · rw [if_neg h1]
        by_cases h2 : b = r
        · subst h2
          rw [if_pos rfl, putI_big _ _ (big b)]
          simp
        · rw [if_neg h2]
          refine ⟨Nat.le_refl _, ?_⟩
          rintro (e | e)
          · exact absurd e.symm h1
          · exact absurd e.symm h2
    refine ⟨?_, ?_⟩
    · rw [endsL_snoc, List.nodup_append]
      refine ⟨h.nd, ?_, ?_⟩
      · simp only [List.nodup_cons, List.mem_singleton, Prod.mk.injEq, List.not_mem_nil, not_false_eq_true, List.nodup_nil, and_true]
        exact fun e => hab e.1
      · intro x hx y hy e
        subst e
        simp only [List.mem_cons, List.not_mem_nil, or_false] at hy
        rcases hy with e | e
        · subst e; exact fresh a hx
        · subst e; exact fresh b hx
    · intro r i hri
      rw [endsL_snoc] at hri
      have hl := len r
      rcases List.mem_append.1 hri with h1 | h1
      · have := h.le r i h1
        omega
      · simp only [List.mem_cons, List.not_mem_nil, or_false, Prod.mk.injEq] at h1
        rcases h1 with ⟨e1, e2⟩ | ⟨e1, e2⟩
        · subst e1
          have := hl.2 (.inl rfl)
          omega
        · subst e1
          have := hl.2 (.inr rfl)
          omega
  · exact h
/-! sets as numbers -/
theorem cont_nat {s x : Nat} (hs : s < 65536) (hx : x < 16) : cont (s : Int) (x : Int) = s.testBit x := by
  have h1 : inR (s : Int) 0 65535 = true := by simp [inR]; omega
  have h2 : inR (x : Int) 0 15 = true := by simp [inR]; omega
  have hb : IntKind.i64.bits = 64 := rfl
  have hm : min (x : Int).toNat 64 = x := by simp; omega
  have e1 : (s : Int).fdiv (2 ^ x) = ((s / 2 ^ x : Nat) : Int) := by
    have : (2 : Int) ^ x = ((2 ^ x : Nat) : Int) := by simp
    rw [this, Int.fdiv_eq_ediv_of_nonneg _ (Int.natCast_nonneg _)]; rfl
  have h3 : s / 2 ^ x ≤ s := Nat.div_le_self _ _
  unfold cont
  rw [h1, h2, hb, hm, e1, Bool.true_and, Bool.true_and, BitVec.toNat_and, BitVec.ofInt_natCast, BitVec.toNat_ofNat, Nat.mod_eq_of_lt (Nat.lt_of_le_of_lt h3 (by omega))]
  have e2 : (BitVec.ofInt 64 1).toNat = 1 := by decide
  rw [e2, Nat.and_one_is_mod, Nat.testBit_eq_decide_div_mod_eq, wr64 (by omega) (by omega)]
  rcases Nat.mod_two_eq_zero_or_one (s / 2 ^ x) with h | h <;> simp [h]
theorem addE_nat {s x : Nat} (hs : s < 65536) (hx : x < 16) : addE (s : Int) (x : Int) = ((s ||| 2 ^ x : Nat) : Int) := by
  have h1 : inR (s : Int) 0 65535 = true := by simp [inR]; omega
  have h2 : inR (x : Int) 0 15 = true := by simp [inR]; omega
  have hb : IntKind.i64.bits = 64 := rfl
  have hm : min (x : Int).toNat 64 = x := by simp; omega
  have hp : 2 ^ x < 65536 := Nat.pow_lt_pow_right (by decide) hx
  have e1 : (1 : Int) * 2 ^ x = ((2 ^ x : Nat) : Int) := by simp
  generalize 2 ^ x = p at hp e1 ⊢
  have ho : s ||| p < 65536 := Nat.or_lt_two_pow (n := 16) hs hp
  unfold addE
  rw [h1, h2, hb, hm, e1, wr64 (a := (p : Int)) (by omega) (by omega), Bool.true_and, if_pos rfl, BitVec.toNat_or, BitVec.ofInt_natCast, BitVec.ofInt_natCast, BitVec.toNat_ofNat, BitVec.toNat_ofNat, Nat.mod_eq_of_lt (by omega), Nat.mod_eq_of_lt (by omega), wr64 (by omega) (by omega)]
theorem addE_out {s i : Int} (h : ¬ (0 ≤ i ∧ i ≤ 15)) : addE s i = s := by
  have : inR i 0 15 = false := by simp [inR]; omega
  rw [addE, this, Bool.and_false, if_neg (by simp)]
theorem union_nat {a b : Nat} (ha : a < 65536) (hb : b < 65536) : union (a : Int) (b : Int) = ((a ||| b : Nat) : Int) := by
  have h1 : inR (a : Int) 0 65535 = true := by simp [inR]; omega
  have h2 : inR (b : Int) 0 65535 = true := by simp [inR]; omega
  have hb' : IntKind.i64.bits = 64 := rfl
  have ho : a ||| b < 65536 := Nat.or_lt_two_pow (n := 16) ha hb
  unfold union
  rw [h1, h2, hb', Bool.true_and, if_pos rfl, BitVec.toNat_or, BitVec.ofInt_natCast, BitVec.ofInt_natCast, BitVec.toNat_ofNat, BitVec.toNat_ofNat, Nat.mod_eq_of_lt (by omega), Nat.mod_eq_of_lt (by omega), wr64 (by omega) (by omega)]
def insN (s : Nat) (i : Int) : Nat := if 0 ≤ i ∧ i ≤ 15 then s ||| 2 ^ i.toNat else s
def mkSet (l : List Int) : Nat := l.foldl insN 0
theorem insN_lt {s : Nat} (i : Int) (hs : s < 65536) : insN s i < 65536 := by
  unfold insN
  split
  · rename_i h
    exact Nat.or_lt_two_pow (n := 16) hs (Nat.pow_lt_pow_right (by decide) (by omega))
  · exact hs
theorem addE_ins {s : Nat} (i : Int) (hs : s < 65536) : addE (s : Int) i = (insN s i : Int) := by
  unfold insN
  split
  · rename_i h
    obtain ⟨x, rfl⟩ : ∃ x : Nat, i = (x : Int) := ⟨i.toNat, by omega⟩
    exact addE_nat hs (by omega)
  · rename_i h
    exact addE_out h
theorem foldN_lt : ∀ (l : List Int) (s : Nat), s < 65536 → l.foldl insN s < 65536
  | [], s, h => h
  | i :: l, s, h => foldN_lt l _ (insN_lt i h)
theorem mkSet_lt (l : List Int) : mkSet l < 65536 := foldN_lt l 0 (by decide)
theorem mkSet_step (l : List Int) (k : Nat) (h : k < l.length) : mkSet (l.take (k + 1)) = insN (mkSet (l.take k)) l[k] := by
  rw [List.take_succ_eq_append_getElem h]; simp only [mkSet, List.foldl_append, List.foldl_cons, List.foldl_nil]
theorem insN_bit (s k : Nat) (i : Int) (hk : k < 16) : (insN s i).testBit k = (s.testBit k || decide (i = (k : Int))) := by
  unfold insN
  split
  · rename_i h
    rw [Nat.testBit_or, Nat.testBit_two_pow]
    congr 1
    apply decide_eq_decide.2
    omega
  · rename_i h
    have : decide (i = (k : Int)) = false := decide_eq_false (by omega)
    rw [this, Bool.or_false]
theorem foldN_bit (k : Nat) (hk : k < 16) : ∀ (l : List Int) (s : Nat), (l.foldl insN s).testBit k = true ↔ s.testBit k = true ∨ (k : Int) ∈ l
  | [], s => by simp
  | i :: l, s => by
    rw [List.foldl_cons, foldN_bit k hk l, insN_bit s k i hk, Bool.or_eq_true, decide_eq_true_eq, List.mem_cons, or_assoc]
    constructor
    · rintro (h | h | h) <;> simp [h]
    · rintro (h | h | h) <;> simp [h]
theorem mkSet_bit (l : List Int) (k : Nat) (hk : k < 16) : (mkSet l).testBit k = true ↔ (k : Int) ∈ l := by
  rw [mkSet, foldN_bit k hk]; simp
theorem bit_big {s k : Nat} (hs : s < 65536) (hk : 16 ≤ k) : s.testBit k = false := by
  apply Nat.testBit_lt_two_pow
  exact Nat.lt_of_lt_of_le hs (Nat.pow_le_pow_right (n := 2) (by decide) hk)
theorem set_ext {s t : Nat} (hs : s < 65536) (ht : t < 65536) (h : ∀ k, k < 16 → (s.testBit k = true ↔ t.testBit k = true)) : s = t := by
  apply Nat.eq_of_testBit_eq
  intro k
  rcases Nat.lt_or_ge k 16 with hk | hk
  · have := h k hk
    rcases Bool.eq_false_or_eq_true (s.testBit k) with a | a <;> rcases Bool.eq_false_or_eq_true (t.testBit k) with b | b <;> simp_all
  · rw [bit_big hs hk, bit_big ht hk]
theorem mem_elemsK {s : Nat} (hs : s < 65536) (x : Int) : ∀ k, k ≤ 16 → (x ∈ elemsK (s : Int) k ↔ 0 ≤ x ∧ x < k ∧ s.testBit x.toNat = true)
  | 0, _ => by simp [elemsK_zero]; omega
  | k + 1, hk => by
    rw [elemsK_step, List.mem_append, mem_elemsK hs x k (by omega), cont_nat hs (by omega)]
    rcases Bool.eq_false_or_eq_true (s.testBit k) with a | a
    · rw [a, if_pos rfl, List.mem_singleton]
      constructor
      · rintro (h | rfl)
        · exact ⟨h.1, by omega, h.2.2⟩
        · exact ⟨by omega, by omega, by simpa using a⟩
      · rintro ⟨h1, h2, h3⟩
        by_cases e : x = (k : Int)
        · exact .inr e
        · exact .inl ⟨h1, by omega, h3⟩
    · rw [a, if_neg (by simp)]
      simp only [List.not_mem_nil, or_false]
      constructor
      · rintro ⟨h1, h2, h3⟩
        exact ⟨h1, by omega, h3⟩
      · rintro ⟨h1, h2, h3⟩
        refine ⟨h1, ?_, h3⟩
        rcases Int.lt_or_le x k with h | h
        · exact h
        · have : x.toNat = k := by omega
          rw [this, a] at h3; cases h3
theorem mem_elems {s : Nat} (hs : s < 65536) (x : Int) : x ∈ elems (s : Int) ↔ 0 ≤ x ∧ x < 16 ∧ s.testBit x.toNat = true := mem_elemsK hs x 16 (by omega)
theorem elemsK_sorted (s : Int) : ∀ k, (elemsK s k).Pairwise (· < ·) ∧ ∀ x ∈ elemsK s k, x < (k : Int)
  | 0 => by simp [elemsK_zero]
  | k + 1 => by
    obtain ⟨h1, h2⟩ := elemsK_sorted s k
    rw [elemsK_step]
    split
    · refine ⟨?_, ?_⟩
      · rw [List.pairwise_append]
        refine ⟨h1, by simp, ?_⟩
        intro a ha b hb
        rw [List.mem_singleton] at hb
        subst hb
        exact h2 a ha
      · intro x hx
        rcases List.mem_append.1 hx with h | h
        · have := h2 x h; omega
        · rw [List.mem_singleton] at h; omega
    · rw [List.append_nil]
      exact ⟨h1, fun x hx => by have := h2 x hx; omega⟩
theorem sorted_ext : ∀ (l m : List Int), l.Pairwise (· < ·) → m.Pairwise (· < ·) → (∀ x, x ∈ l ↔ x ∈ m) → l = m
  | [], [], _, _, _ => rfl
  | [], b :: m, _, _, h => by have := (h b).2 (by simp); simp at this
  | a :: l, [], _, _, h => by have := (h a).1 (by simp); simp at this
  | a :: l, b :: m, h1, h2, h => by
    rw [List.pairwise_cons] at h1 h2
    have e : a = b := by
      rcases List.mem_cons.1 ((h a).1 (by simp)) with e | e
      · exact e
      · rcases List.mem_cons.1 ((h b).2 (by simp)) with e' | e'
        · exact e'.symm
        · have := h2.1 a e; have := h1.1 b e'; omega
    subst e
    congr 1
    refine sorted_ext l m h1.2 h2.2 fun x => ?_
    constructor
    · intro hx
      rcases List.mem_cons.1 ((h x).1 (by simp [hx])) with e | e
      · subst e; exact absurd (h1.1 x hx) (Int.lt_irrefl x)
      · exact e
    · intro hx
      rcases List.mem_cons.1 ((h x).2 (by simp [hx])) with e | e
      · subst e; exact absurd (h2.1 x hx) (Int.lt_irrefl x)
      · exact e
theorem putI_sorted : ∀ (l : List Int) (n : Int), l.Pairwise (· < ·) → (putI l n).Pairwise (· < ·)
  | [], n, _ => by simp [putI]
  | y :: l, n, h => by
    rw [List.pairwise_cons] at h
    unfold putI
    split
    · rw [List.pairwise_cons]
      refine ⟨?_, putI_sorted l n h.2⟩
      intro z hz
      rcases (mem_putI l n z).1 hz with e | e
      · omega
      · exact h.1 z e
    · split
      · rw [List.pairwise_cons]; exact h
      · rw [List.pairwise_cons, List.pairwise_cons]
        refine ⟨?_, h⟩
        intro z hz
        rcases List.mem_cons.1 hz with e | e
        · omega
        · have := h.1 z e; omega
theorem union_bit (a b k : Nat) : (a ||| b).testBit k = true ↔ a.testBit k = true ∨ b.testBit k = true := by
  rw [Nat.testBit_or, Bool.or_eq_true]
/-! who is near -/
def ifsK (t : Tp) (r kind : Int) : List Int := (intfs t.links r).filter fun x => ifKind t r x == kind
def nbL (t : Tp) (kind r : Int) : List Int := (ifsK t r kind).map fun x => (remote t r x).1
def putN (o : List Int) (f : Int) : List Int := if inR f 0 15 then putI o f else o
def nbrs (t : Tp) (kind r : Int) : List Int := (nbL t kind r).foldl putN []
def nS (t : Tp) (kind r : Int) : Nat := mkSet (nbL t kind r)
theorem nS_lt (t : Tp) (kind r : Int) : nS t kind r < 65536 := mkSet_lt _
theorem foldP : ∀ (l o : List Int), o.Pairwise (· < ·) → (∀ x ∈ o, 0 ≤ x ∧ x ≤ 15) → (l.foldl putN o).Pairwise (· < ·) ∧ ∀ x, x ∈ l.foldl putN o ↔ x ∈ o ∨ (0 ≤ x ∧ x ≤ 15 ∧ x ∈ l)
  | [], o, h, _ => ⟨h, by simp⟩
  | f :: l, o, h, ho => by
    rw [List.foldl_cons]
    by_cases hf : 0 ≤ f ∧ f ≤ 15
    · have e : putN o f = putI o f := by rw [putN, if_pos (by simp [inR]; omega)]
      rw [e]
      have ho' : ∀ x ∈ putI o f, 0 ≤ x ∧ x ≤ 15 := by
        intro x hx
        rcases (mem_putI o f x).1 hx with e | e
        · omega
        · exact ho x e
      obtain ⟨h1, h2⟩ := foldP l (putI o f) (putI_sorted o f h) ho'
      refine ⟨h1, fun x => ?_⟩
      rw [h2, mem_putI, List.mem_cons]
      constructor
      · rintro ((e | e) | ⟨h3, h4, h5⟩)
        · exact .inr ⟨by omega, by omega, .inl e⟩
        · exact .inl e
        · exact .inr ⟨h3, h4, .inr h5⟩
      · rintro (e | ⟨h3, h4, h5 | h5⟩)
        · exact .inl (.inr e)
        · exact .inl (.inl h5)
        · exact .inr ⟨h3, h4, h5⟩
    · have e : putN o f = o := by
        have : inR f 0 15 = false := by simp [inR]; omega
        rw [putN, this, if_neg (by simp)]
      rw [e]
      obtain ⟨h1, h2⟩ := foldP l o h ho
      refine ⟨h1, fun x => ?_⟩
      rw [h2, List.mem_cons]
      constructor
      · rintro (e | ⟨h3, h4, h5⟩)
        · exact .inl e
        · exact .inr ⟨h3, h4, .inr h5⟩
      · rintro (e | ⟨h3, h4, h5 | h5⟩)
        · exact .inl e
        · omega
        · exact .inr ⟨h3, h4, h5⟩
theorem mem_nbrs (t : Tp) (kind r x : Int) : x ∈ nbrs t kind r ↔ 0 ≤ x ∧ x ≤ 15 ∧ x ∈ nbL t kind r := by
  rw [nbrs, (foldP _ [] (by simp) (by simp)).2]; simp
theorem nbrs_eq (t : Tp) (kind r : Int) : nbrs t kind r = elems (nS t kind r : Int) := by
  refine sorted_ext _ _ (foldP _ [] (by simp) (by simp)).1 (elemsK_sorted _ 16).1 fun x => ?_
  rw [mem_nbrs, mem_elems (nS_lt _ _ _)]
  constructor
  · rintro ⟨h1, h2, h3⟩
    refine ⟨h1, by omega, ?_⟩
    rw [nS, mkSet_bit _ _ (by omega), Int.toNat_of_nonneg h1]; exact h3
  · rintro ⟨h1, h2, h3⟩
    rw [nS, mkSet_bit _ _ (by omega), Int.toNat_of_nonneg h1] at h3
    exact ⟨h1, by omega, h3⟩
theorem mkSet_nbrs (t : Tp) (kind r : Int) : mkSet (nbrs t kind r) = nS t kind r := by
  refine set_ext (mkSet_lt _) (nS_lt _ _ _) fun k hk => ?_
  rw [mkSet_bit _ _ hk, mem_nbrs, nS, mkSet_bit _ _ hk]
  constructor
  · exact fun h => h.2.2
  · exact fun h => ⟨by omega, by omega, h⟩
theorem nbrs_len (t : Tp) (kind r : Int) : (nbrs t kind r).length ≤ 16 := by rw [nbrs_eq]; exact elemsK_len _ 16
/-- what lies behind a list -/
def nSL (t : Tp) (kind : Int) (l : List Int) : Nat := l.foldl (fun s r => s ||| nS t kind r) 0
theorem foldU_lt (t : Tp) (kind : Int) : ∀ (l : List Int) (s : Nat), s < 65536 → l.foldl (fun s r => s ||| nS t kind r) s < 65536
  | [], s, h => h
  | r :: l, s, h => foldU_lt t kind l _ (Nat.or_lt_two_pow (n := 16) h (nS_lt _ _ _))
theorem nSL_lt (t : Tp) (kind : Int) (l : List Int) : nSL t kind l < 65536 := foldU_lt t kind l 0 (by decide)
theorem nSL_step (t : Tp) (kind : Int) (l : List Int) (k : Nat) (h : k < l.length) : nSL t kind (l.take (k + 1)) = nSL t kind (l.take k) ||| nS t kind l[k] := by
  rw [List.take_succ_eq_append_getElem h]; simp only [nSL, List.foldl_append, List.foldl_cons, List.foldl_nil]
theorem foldU_bit (t : Tp) (kind : Int) (k : Nat) : ∀ (l : List Int) (s : Nat), (l.foldl (fun s r => s ||| nS t kind r) s).testBit k = true ↔ s.testBit k = true ∨ ∃ r ∈ l, (nS t kind r).testBit k = true
  | [], s => by simp
  | r :: l, s => by
    rw [List.foldl_cons, foldU_bit t kind k l, union_bit]
    constructor
    · rintro ((h | h) | ⟨r', h1, h2⟩)
      · exact .inl h
      · exact .inr ⟨r, by simp, h⟩
      · exact .inr ⟨r', by simp [h1], h2⟩
    · rintro (h | ⟨r', h1, h2⟩)
      · exact .inl (.inl h)
      · rcases List.mem_cons.1 h1 with e | e
        · subst e; exact .inl (.inr h2)
        · exact .inr ⟨r', e, h2⟩
theorem nSL_bit (t : Tp) (kind : Int) (l : List Int) (k : Nat) : (nSL t kind l).testBit k = true ↔ ∃ r ∈ l, (nS t kind r).testBit k = true := by
  rw [nSL, foldU_bit]; simp
theorem foldU_or (t : Tp) (kind : Int) : ∀ (l : List Int) (s : Nat), l.foldl (fun s r => s ||| nS t kind r) s = s ||| nSL t kind l := by
  intro l s
  apply Nat.eq_of_testBit_eq
  intro k
  apply Bool.eq_iff_iff.2
  rw [foldU_bit, union_bit, nSL_bit]
/-- a step from a set -/
def stepS (t : Tp) (kind : Int) (s : Nat) : Nat := nSL t kind (elems (s : Int))
theorem stepS_lt (t : Tp) (kind : Int) (s : Nat) : stepS t kind s < 65536 := nSL_lt _ _ _
theorem stepS_bit (t : Tp) (kind : Int) {s : Nat} (hs : s < 65536) (k : Nat) : (stepS t kind s).testBit k = true ↔ ∃ r : Nat, r < 16 ∧ s.testBit r = true ∧ (nS t kind r).testBit k = true := by
  rw [stepS, nSL_bit]
  constructor
  · rintro ⟨r, h1, h2⟩
    rw [mem_elems hs] at h1
    exact ⟨r.toNat, by omega, h1.2.2, by rw [Int.toNat_of_nonneg h1.1]; exact h2⟩
  · rintro ⟨r, h1, h2, h3⟩
    exact ⟨r, (mem_elems hs _).2 ⟨by omega, by omega, by simpa using h2⟩, h3⟩
theorem stepS_or (t : Tp) (kind : Int) {a b : Nat} (ha : a < 65536) (hb : b < 65536) : stepS t kind (a ||| b) = stepS t kind a ||| stepS t kind b := by
  apply Nat.eq_of_testBit_eq
  intro k
  apply Bool.eq_iff_iff.2
  rw [union_bit, stepS_bit t kind (Nat.or_lt_two_pow (n := 16) ha hb), stepS_bit t kind ha, stepS_bit t kind hb]
  constructor
  · rintro ⟨r, h1, h2, h3⟩
    rcases (union_bit a b r).1 h2 with h | h
    · exact .inl ⟨r, h1, h, h3⟩
    · exact .inr ⟨r, h1, h, h3⟩
  · rintro (⟨r, h1, h2, h3⟩ | ⟨r, h1, h2, h3⟩)
    · exact ⟨r, h1, (union_bit a b r).2 (.inl h2), h3⟩
    · exact ⟨r, h1, (union_bit a b r).2 (.inr h2), h3⟩
/-- the set that is reached from a list in k steps, and in 1 to k steps -/
def lev (t : Tp) (kind : Int) (l : List Int) : Nat → Nat
  | 0 => 0
  | 1 => nSL t kind l
  | k + 2 => stepS t kind (lev t kind l (k + 1))
def upTo (t : Tp) (kind : Int) (l : List Int) : Nat → Nat
  | 0 => 0
  | k + 1 => upTo t kind l k ||| lev t kind l (k + 1)
theorem lev_lt (t : Tp) (kind : Int) (l : List Int) : ∀ k, lev t kind l k < 65536
  | 0 => by simp [lev]
  | 1 => nSL_lt _ _ _
  | k + 2 => stepS_lt _ _ _
theorem upTo_lt (t : Tp) (kind : Int) (l : List Int) : ∀ k, upTo t kind l k < 65536
  | 0 => by simp [upTo]
  | k + 1 => Nat.or_lt_two_pow (n := 16) (upTo_lt t kind l k) (lev_lt t kind l (k + 1))
theorem stepS_zero (t : Tp) (kind : Int) : stepS t kind 0 = 0 := by
  apply Nat.eq_of_testBit_eq
  intro k
  apply Bool.eq_iff_iff.2
  rw [stepS_bit t kind (by decide)]; simp
theorem upTo_step (t : Tp) (kind : Int) (l : List Int) : ∀ k, upTo t kind l (k + 1) = nSL t kind l ||| stepS t kind (upTo t kind l k)
  | 0 => by simp [upTo, lev, stepS_zero]
  | k + 1 => by
    have ih := upTo_step t kind l k
    have e3 := stepS_or t kind (upTo_lt t kind l k) (lev_lt t kind l (k + 1))
    show upTo t kind l (k + 1) ||| lev t kind l (k + 2) = nSL t kind l ||| stepS t kind (upTo t kind l k ||| lev t kind l (k + 1))
    rw [e3, ← Nat.or_assoc, ← ih]
    rfl
/-- the other way round: from a set, again and again -/
def reachS (t : Tp) (kind : Int) (s : Nat) : Nat → Nat
  | 0 => s
  | k + 1 => reachS t kind s k ||| stepS t kind (reachS t kind s k)
theorem reachS_lt (t : Tp) (kind : Int) {s : Nat} (h : s < 65536) : ∀ k, reachS t kind s k < 65536
  | 0 => h
  | k + 1 => Nat.or_lt_two_pow (n := 16) (reachS_lt t kind h k) (stepS_lt _ _ _)
theorem reach_eq (t : Tp) (kind : Int) (l : List Int) : ∀ k, reachS t kind (nSL t kind l) k = upTo t kind l (k + 1)
  | 0 => by simp [reachS, upTo, lev]
  | k + 1 => by
    have e1 := upTo_step t kind l (k + 1)
    have e2 := upTo_step t kind l k
    have e3 : stepS t kind (upTo t kind l (k + 1)) = stepS t kind (upTo t kind l k) ||| stepS t kind (lev t kind l (k + 1)) := stepS_or t kind (upTo_lt _ _ _ _) (lev_lt _ _ _ _)
    rw [reachS, reach_eq t kind l k, e1]
    apply Nat.eq_of_testBit_eq
    intro j
    apply Bool.eq_iff_iff.2
    rw [union_bit, union_bit]
    constructor
    · rintro (h | h)
      · rw [e2, union_bit] at h
        rcases h with h | h
        · exact .inl h
        · right; rw [e3, union_bit]; exact .inl h
      · exact .inr h
    · rintro (h | h)
      · left; rw [e2, union_bit]; exact .inl h
      · exact .inr h
theorem ifsK_all (t : Tp) (r kind : Int) (k : Nat) (h : k < (intfs t.links r).length) : ((intfs t.links r).take (k + 1)).filter (fun x => ifKind t r x == kind) = ((intfs t.links r).take k).filter (fun x => ifKind t r x == kind) ++ (if ifKind t r (intfs t.links r)[k] == kind then [(intfs t.links r)[k]] else []) := by
  rw [List.take_succ_eq_append_getElem h, List.filter_append]
  congr 1
  simp only [List.filter_cons, List.filter_nil]
theorem intfs_len (t : Tp) (r : Int) : (intfs t.links r).length ≤ 2 * t.links.length := by
  rw [← intf_all]; exact intf_len t r _ (Nat.le_refl _)
theorem filt_len (t : Tp) (r kind : Int) (k : Nat) : (((intfs t.links r).take k).filter (fun x => ifKind t r x == kind)).length ≤ 2 * t.links.length := by
  have h1 := List.length_filter_le (fun x => ifKind t r x == kind) ((intfs t.links r).take k)
  have h2 := intfs_len t r
  rw [List.length_take] at h1
  omega
theorem ifsK_len (t : Tp) (r kind : Int) : (ifsK t r kind).length ≤ 2 * t.links.length :=
  Nat.le_trans (List.length_filter_le _ _) (intfs_len t r)
def nbK (t : Tp) (kind r : Int) (k : Nat) : List Int := (((ifsK t r kind).take k).map fun x => (remote t r x).1).foldl putN []
theorem nbK_step (t : Tp) (kind r : Int) (k : Nat) (h : k < (ifsK t r kind).length) : nbK t kind r (k + 1) = putN (nbK t kind r k) (remote t r (ifsK t r kind)[k]).1 := by
  rw [nbK, List.take_succ_eq_append_getElem h, List.map_append, List.foldl_append]; rfl
theorem nbK_all (t : Tp) (kind r : Int) : nbK t kind r (ifsK t r kind).length = nbrs t kind r := by rw [nbK, List.take_length]; rfl
theorem nbK_len (t : Tp) (kind r : Int) : ∀ k, k ≤ (ifsK t r kind).length → (nbK t kind r k).length ≤ k
  | 0, _ => by simp [nbK]
  | k + 1, h => by
    have ih := nbK_len t kind r k (by omega)
    rw [nbK_step t kind r k h, putN]
    split
    · have := putI_len (nbK t kind r k) (remote t r (ifsK t r kind)[k]).1; omega
    · omega
def nSK (t : Tp) (kind r : Int) (k : Nat) : Nat := mkSet (((ifsK t r kind).take k).map fun x => (remote t r x).1)
theorem nSK_step (t : Tp) (kind r : Int) (k : Nat) (h : k < (ifsK t r kind).length) : nSK t kind r (k + 1) = insN (nSK t kind r k) (remote t r (ifsK t r kind)[k]).1 := by
  rw [nSK, List.take_succ_eq_append_getElem h, List.map_append, mkSet, List.foldl_append]; rfl
theorem nSK_lt (t : Tp) (kind r : Int) (k : Nat) : nSK t kind r k < 65536 := mkSet_lt _
theorem nSK_all (t : Tp) (kind r : Int) : nSK t kind r (ifsK t r kind).length = nS t kind r := by rw [nSK, List.take_length]; rfl
theorem elems_len (s : Int) : (elems s).length ≤ 16 := elemsK_len s 16

theorem foldU_step (t : Tp) (kind : Int) (s : Nat) (l : List Int) (k : Nat) (h : k < l.length) : (l.take (k + 1)).foldl (fun s r => s ||| nS t kind r) s = (l.take k).foldl (fun s r => s ||| nS t kind r) s ||| nS t kind l[k] := by
  rw [List.take_succ_eq_append_getElem h]; simp only [List.foldl_append, List.foldl_cons, List.foldl_nil]
theorem reachS_step (t : Tp) (kind : Int) (s : Nat) (k : Nat) : (elems (reachS t kind s k : Nat)).foldl (fun s r => s ||| nS t kind r) (reachS t kind s k) = reachS t kind s (k + 1) := by
  rw [foldU_or]; rfl
def rCores (t : Tp) (r : Int) : List Int := (elems (addE (upTo t 3 [r] 10 : Nat) r)).filter fun x => coreF t x
theorem filt_step (t : Tp) (l : List Int) (k : Nat) (h : k < l.length) : (l.take (k + 1)).filter (fun x => coreF t x) = (l.take k).filter (fun x => coreF t x) ++ (if coreF t l[k] = true then [l[k]] else []) := by
  rw [List.take_succ_eq_append_getElem h, List.filter_append]
  congr 1
  simp only [List.filter_cons, List.filter_nil]
theorem filt_le (t : Tp) (l : List Int) (k : Nat) : ((l.take k).filter (fun x => coreF t x)).length ≤ k := by
  have := List.length_filter_le (fun x => coreF t x) (l.take k)
  rw [List.length_take] at this
  omega
theorem rCores_len (t : Tp) (r : Int) : (rCores t r).length ≤ 16 := Nat.le_trans (List.length_filter_le _ _) (elems_len _)

end Go.Proofs.Ytbinljboomkkdaa

/- The words of this part of the program (zb). -/
namespace Go.Proofs.Ytbinljboomkkdaa
open Go.RowKit
set_option linter.unusedSimpArgs false
set_option linter.unusedVariables false
set_option maxRecDepth 100000
/-- a topology that is drawn -/
structure Dt (t : Tp) : Prop where
  n1 : 1 ≤ t.ases.length
  n8 : t.ases.length ≤ 8
  ln : t.links.length ≤ 64
  ok : ∀ l ∈ t.links, lkOk t l = true
  nd : (endsL t.links).Nodup
  w : ∀ a ∈ t.ases, asW a
theorem endsL_filter (p : Lk → Bool) (L : List Lk) : (endsL (L.filter p)).Sublist (endsL L) := by
  induction L with
  | nil => simp [endsL]
  | cons l L ih =>
    simp only [endsL, List.filter_cons, List.flatMap_cons] at ih ⊢
    split
    · rw [List.flatMap_cons]
      exact List.Sublist.append (List.Sublist.refl _) ih
    · exact List.Sublist.trans ih (List.sublist_append_right _ _)
theorem wrap_rng (a : Int) : i64R (IntKind.i64.wrap a) := by
  rw [IntKind.wrap_i64]; unfold i64R; omega
theorem set_asW {A : List As} {b : Nat} {x : As} (h : ∀ a ∈ A, asW a) (hx : asW x) : ∀ a ∈ A.set b x, asW a := by
  intro a ha
  rcases List.mem_or_eq_of_mem_set ha with h1 | h1
  · exact h a h1
  · subst h1; exact hx
def fnd : List Int → Int → Bool
  | [], _ => false
  | x :: l, n => if x < n then fnd l n else x == n
theorem fnd_drop {l : List Int} {k : Nat} (h : k < l.length) (n : Int) : fnd (l.drop k) n = if l[k] < n then fnd (l.drop (k + 1)) n else l[k] == n := by
  rw [List.drop_eq_getElem_cons h, fnd]
theorem putI_fnd : ∀ (l : List Int) (n : Int), fnd l n = true → putI l n = l
  | [], n, h => by simp [fnd] at h
  | x :: l, n, h => by
    unfold fnd at h
    unfold putI
    split
    · rename_i hx
      rw [if_pos hx] at h
      rw [putI_fnd l n h]
    · rename_i hx
      rw [if_neg hx] at h
      rw [if_pos (by simpa using h)]

/-- a topology that is drawn and may have been turned a little -/
structure Ds (t : Tp) : Prop where
  n8 : t.ases.length ≤ 8
  ln : t.links.length ≤ 65
  w : tpW t
theorem Dt.s {t : Tp} (h : Dt t) : Ds t := by
  refine ⟨h.n8, by have := h.ln; omega, h.w, ?_⟩
  intro l hl
  have := h.ok l hl
  simp only [lkOk, realm, inR, Bool.and_eq_true, decide_eq_true_eq] at this
  obtain ⟨⟨⟨⟨⟨h1, h2⟩, h3⟩, h4⟩, h5⟩, h6⟩ := this
  have h7 : l.kind = 1 ∨ l.kind = 2 ∨ l.kind = 3 := by
    by_cases k1 : (l.kind == 1) = true
    · left; simpa using k1
    · by_cases k2 : (l.kind == 2) = true
      · right; left; simpa using k2
      · rw [if_neg k1, if_neg k2] at h6
        simp only [Bool.and_eq_true, beq_iff_eq] at h6
        right; right; exact h6.1.1
  have := h.n8
  unfold lkW i64R
  omega
theorem ds_set {A : List As} {L : List Lk} {x : As} (k : Nat) (h : Ds ⟨A, L⟩) (hx : asW x) : Ds ⟨A.set k x, L⟩ := by
  refine ⟨?_, h.ln, set_asW h.w.1 hx, h.w.2⟩
  have := h.n8
  simpa using this
theorem ds_link {A : List As} {L : List Lk} {x : Lk} (h : Dt ⟨A, L⟩) (hx : lkW x) : Ds ⟨A, L ++ [x]⟩ := by
  refine ⟨h.n8, ?_, h.s.w.1, ?_⟩
  · have := h.ln
    simp only at this
    simp; omega
  · intro l hl
    rcases List.mem_append.1 hl with e | e
    · exact h.s.w.2 l e
    · rw [List.mem_singleton] at e
      subst e; exact hx
theorem ds_nil {A : List As} {L : List Lk} (h : Ds ⟨A, L⟩) : Ds ⟨[], L⟩ := ⟨by simp, h.ln, by simp, h.w.2⟩
theorem ecall_imp {α β : Type} {P : Program} {f : FuncId} {xs : List D} {ms : List Ent} {m' : Nat} {I : α → Prop} {r : α → D} {ms' : α → List Ent} {J : β → Prop} {r' : β → D} {ms2 : β → List Ent} (h : ECall P f xs ms m' I r ms') (g : ∀ x, I x → ∃ y, J y ∧ r' y = r x ∧ ms2 y = ms' x) : ECall P f xs ms m' J r' ms2 := by
  refine ⟨h.1, fun w vs Im β q1 q2 q3 q4 => (h.2 w vs Im β q1 q2 q3 q4).mono ?_⟩
  rintro e w' ⟨v, x, Im', β', he, hI, rest⟩
  obtain ⟨y, hy, e1, e2⟩ := g x hI
  exact ⟨v, y, Im', β', he, hy, by rw [e1, e2]; exact rest⟩

end Go.Proofs.Ytbinljboomkkdaa

/- The words of this part of the program (zc). -/
namespace Go.Proofs.Ytbinljboomkkdaa
open Go.RowKit
set_option linter.unusedSimpArgs false
set_option linter.unusedVariables false
set_option maxRecDepth 100000
end Go.Proofs.Ytbinljboomkkdaa

/- The words of this part of the program (zd). -/
namespace Go.Proofs.Ytbinljboomkkdaa
open Go.RowKit
set_option linter.unusedSimpArgs false
set_option linter.unusedVariables false
set_option maxRecDepth 100000
/-- a policy that is drawn -/
def Pd (p : Pl) : Prop := (2 ≤ p.ml ∧ p.ml ≤ 8) ∧ (50 ≤ p.life ∧ p.life ≤ 149)
end Go.Proofs.Ytbinljboomkkdaa

/- The words of this part of the program (ze). -/
namespace Go.Proofs.Ytbinljboomkkdaa
open Go.RowKit
set_option linter.unusedSimpArgs false
set_option linter.unusedVariables false
set_option maxRecDepth 100000
/-! paths upwards and downwards -/
theorem fstF_none {p : Nat → Bool} : ∀ {m i : Nat}, fstF p m i = -1 → ∀ j, i ≤ j → j < i + m → p j = false
  | 0, i, _, j, h1, h2 => by omega
  | m + 1, i, h, j, h1, h2 => by
    simp only [fstF] at h
    by_cases hp : p i = true
    · rw [if_pos hp] at h; omega
    · rw [if_neg hp] at h
      by_cases e : j = i
      · subst e; simpa using hp
      · exact fstF_none h j (by omega) (by omega)
theorem ends_mem (l : Lk) (r d : Int) : ends l r d = true ↔ (r, d) ∈ [(l.a, l.ai), (l.b, l.bi)] := by
  simp only [ends, Bool.or_eq_true, Bool.and_eq_true, beq_iff_eq, List.mem_cons, Prod.mk.injEq, List.not_mem_nil, or_false]
  constructor
  · rintro (⟨h1, h2⟩ | ⟨h1, h2⟩)
    · exact .inl ⟨h1.symm, h2.symm⟩
    · exact .inr ⟨h1.symm, h2.symm⟩
  · rintro (⟨h1, h2⟩ | ⟨h1, h2⟩)
    · exact .inl ⟨h1.symm, h2.symm⟩
    · exact .inr ⟨h1.symm, h2.symm⟩
theorem ends_endsL {L : List Lk} {l : Lk} (hl : l ∈ L) {r d : Int} (h : ends l r d = true) : (r, d) ∈ endsL L :=
  List.mem_flatMap.2 ⟨l, hl, (ends_mem l r d).1 h⟩
theorem ends_uniq : ∀ (L : List Lk), (endsL L).Nodup → ∀ (i j : Nat) (hi : i < L.length) (hj : j < L.length) (r d : Int), ends L[i] r d = true → ends L[j] r d = true → i = j
  | [], _, i, _, hi, _, _, _, _, _ => by simp at hi
  | l :: L, hn, i, j, hi, hj, r, d, h1, h2 => by
    have hn' : ([(l.a, l.ai), (l.b, l.bi)] ++ endsL L).Nodup := by simpa [endsL] using hn
    rw [List.nodup_append] at hn'
    obtain ⟨_, n2, n3⟩ := hn'
    match i, j with
    | 0, 0 => rfl
    | 0, j + 1 =>
      simp only [List.getElem_cons_zero, List.getElem_cons_succ] at h1 h2
      exact absurd rfl (n3 _ ((ends_mem l r d).1 h1) _ (ends_endsL (List.getElem_mem (by simpa using hj)) h2))
    | i + 1, 0 =>
      simp only [List.getElem_cons_zero, List.getElem_cons_succ] at h1 h2
      exact absurd rfl (n3 _ ((ends_mem l r d).1 h2) _ (ends_endsL (List.getElem_mem (by simpa using hi)) h1))
    | i + 1, j + 1 =>
      simp only [List.getElem_cons_succ] at h1 h2
      rw [ends_uniq L n2 i j (by simpa using hi) (by simpa using hj) r d h1 h2]
theorem lnk_at {t : Tp} (hn : (endsL t.links).Nodup) {i : Nat} (hi : i < t.links.length) {r d : Int} (h : ends t.links[i] r d = true) : lnk t r d = i := by
  rcases fstF_range (fun i => ends (t.links.getD i lz) r d) t.links.length 0 with e | ⟨e1, e2, e3⟩
  · have := fstF_none e i (by omega) (by omega)
    simp only [getD_lt hi, h] at this
    cases this
  · have hk : (fstF (fun i => ends (t.links.getD i lz) r d) t.links.length 0).toNat < t.links.length := by omega
    rw [getD_lt hk] at e3
    have := ends_uniq _ hn _ _ hk hi r d e3 h
    unfold lnk; omega
theorem lkOk_parts {t : Tp} {l : Lk} (h : lkOk t l = true) : realm t l.a = true ∧ realm t l.b = true ∧ l.a < l.b ∧ (1 ≤ l.ai ∧ l.ai ≤ 6) ∧ (1 ≤ l.bi ∧ l.bi ≤ 6) ∧ (l.kind = 2 → isdF t l.a = isdF t l.b ∧ coreF t l.b = false) ∧ (l.kind = 1 ∨ l.kind = 2 ∨ l.kind = 3) := by
  simp only [lkOk, inR, Bool.and_eq_true, decide_eq_true_eq] at h
  obtain ⟨⟨⟨⟨⟨h1, h2⟩, h3⟩, h4⟩, h5⟩, h6⟩ := h
  refine ⟨h1, h2, h3, h4, h5, ?_, ?_⟩
  · intro hk
    rw [hk] at h6
    simpa using h6
  · by_cases k1 : (l.kind == 1) = true
    · left; simpa using k1
    · by_cases k2 : (l.kind == 2) = true
      · right; left; simpa using k2
      · rw [if_neg k1, if_neg k2] at h6
        simp only [Bool.and_eq_true, beq_iff_eq] at h6
        right; right; exact h6.1.1
/-- x is a parent of y -/
def Par (t : Tp) (x y : Int) : Prop := ∃ l ∈ t.links, l.kind = 2 ∧ l.a = x ∧ l.b = y
theorem ifKind_at {t : Tp} {r d : Int} {i : Nat} (hi : i < t.links.length) (hd : d ≠ 0) (hl : lnk t r d = i) : ifKind t r d = if t.links[i].kind = 1 then 1 else if t.links[i].kind = 3 then 4 else if t.links[i].kind = 2 then (if t.links[i].a = r ∧ t.links[i].ai = d then 2 else 3) else 0 := by
  have h1 : (d == 0) = false := by simpa using hd
  have h2 : ¬ ((i : Int) < 0) := by omega
  simp only [ifKind, h1, hl, h2, Int.toNat_natCast, getD_lt hi, beq_iff_eq, Bool.and_eq_true, Bool.false_eq_true, if_false]
theorem remote_at {t : Tp} {r d : Int} {i : Nat} (hi : i < t.links.length) (hl : lnk t r d = i) : remote t r d = if t.links[i].a = r ∧ t.links[i].ai = d then (t.links[i].b, t.links[i].bi) else (t.links[i].a, t.links[i].ai) := by
  have h2 : ¬ ((i : Int) < 0) := by omega
  simp only [remote, hl, h2, Int.toNat_natCast, getD_lt hi, beq_iff_eq, Bool.and_eq_true, if_false]
theorem mem_nbL {t : Tp} {kind r x : Int} : x ∈ nbL t kind r ↔ ∃ d, (r, d) ∈ endsL t.links ∧ ifKind t r d = kind ∧ (remote t r d).1 = x := by
  simp only [nbL, ifsK, List.mem_map, List.mem_filter, beq_iff_eq, mem_intfs]
  constructor
  · rintro ⟨d, ⟨h1, h2⟩, h3⟩; exact ⟨d, h1, h2, h3⟩
  · rintro ⟨d, h1, h2, h3⟩; exact ⟨d, ⟨h1, h2⟩, h3⟩
theorem endsL_idx {L : List Lk} {r d : Int} (h : (r, d) ∈ endsL L) : ∃ i, ∃ hi : i < L.length, ends L[i] r d = true := by
  obtain ⟨l, hl, hm⟩ := List.mem_flatMap.1 h
  obtain ⟨i, hi, rfl⟩ := List.getElem_of_mem hl
  exact ⟨i, hi, (ends_mem _ _ _).2 hm⟩
theorem mem_up {t : Tp} (ht : Dt t) (r x : Int) : x ∈ nbL t 3 r ↔ Par t x r := by
  rw [mem_nbL]
  constructor
  · rintro ⟨d, h1, h2, h3⟩
    obtain ⟨i, hi, he⟩ := endsL_idx h1
    have hl := lnk_at ht.nd hi he
    have hd : d ≠ 0 := by
      rintro rfl
      simp [ifKind] at h2
    rw [ifKind_at hi hd hl] at h2
    rw [remote_at hi hl] at h3
    have k1 : ¬ t.links[i].kind = 1 := by intro e; rw [if_pos e] at h2; omega
    rw [if_neg k1] at h2
    have k3 : ¬ t.links[i].kind = 3 := by intro e; rw [if_pos e] at h2; omega
    rw [if_neg k3] at h2
    by_cases k2 : t.links[i].kind = 2
    · rw [if_pos k2] at h2
      have ka : ¬ (t.links[i].a = r ∧ t.links[i].ai = d) := by intro e; rw [if_pos e] at h2; omega
      rw [if_neg ka] at h3
      refine ⟨t.links[i], List.getElem_mem hi, k2, h3, ?_⟩
      simp only [ends, Bool.or_eq_true, Bool.and_eq_true, beq_iff_eq] at he
      rcases he with he | he
      · exact absurd he ka
      · exact he.1
    · rw [if_neg k2] at h2; omega
  · rintro ⟨l, hl, k2, rfl, rfl⟩
    obtain ⟨i, hi, rfl⟩ := List.getElem_of_mem hl
    obtain ⟨_, _, p3, p4, p5, _, _⟩ := lkOk_parts (ht.ok _ hl)
    have he : ends t.links[i] t.links[i].b t.links[i].bi = true := by simp [ends]
    have hk := lnk_at ht.nd hi he
    have ka : ¬ (t.links[i].a = t.links[i].b ∧ t.links[i].ai = t.links[i].bi) := by omega
    refine ⟨t.links[i].bi, ends_endsL hl he, ?_, ?_⟩
    · rw [ifKind_at hi (by omega) hk, if_neg (by omega), if_neg (by omega), if_pos k2, if_neg ka]
    · rw [remote_at hi hk, if_neg ka]
theorem mem_down {t : Tp} (ht : Dt t) (r x : Int) : x ∈ nbL t 2 r ↔ Par t r x := by
  rw [mem_nbL]
  constructor
  · rintro ⟨d, h1, h2, h3⟩
    obtain ⟨i, hi, he⟩ := endsL_idx h1
    have hl := lnk_at ht.nd hi he
    have hd : d ≠ 0 := by
      rintro rfl
      simp [ifKind] at h2
    rw [ifKind_at hi hd hl] at h2
    rw [remote_at hi hl] at h3
    have k1 : ¬ t.links[i].kind = 1 := by intro e; rw [if_pos e] at h2; omega
    rw [if_neg k1] at h2
    have k3 : ¬ t.links[i].kind = 3 := by intro e; rw [if_pos e] at h2; omega
    rw [if_neg k3] at h2
    by_cases k2 : t.links[i].kind = 2
    · rw [if_pos k2] at h2
      by_cases ka : t.links[i].a = r ∧ t.links[i].ai = d
      · rw [if_pos ka] at h3
        exact ⟨t.links[i], List.getElem_mem hi, k2, ka.1, h3⟩
      · rw [if_neg ka] at h2; omega
    · rw [if_neg k2] at h2; omega
  · rintro ⟨l, hl, k2, rfl, rfl⟩
    obtain ⟨i, hi, rfl⟩ := List.getElem_of_mem hl
    obtain ⟨_, _, p3, p4, p5, _, _⟩ := lkOk_parts (ht.ok _ hl)
    have he : ends t.links[i] t.links[i].a t.links[i].ai = true := by simp [ends]
    have hk := lnk_at ht.nd hi he
    refine ⟨t.links[i].ai, ends_endsL hl he, ?_, ?_⟩
    · rw [ifKind_at hi (by omega) hk, if_neg (by omega), if_neg (by omega), if_pos k2, if_pos ⟨rfl, rfl⟩]
    · rw [remote_at hi hk, if_pos ⟨rfl, rfl⟩]
theorem Par_rng {t : Tp} (ht : Dt t) {x y : Int} (h : Par t x y) : 0 ≤ x ∧ x < y ∧ y < 8 ∧ realm t x = true ∧ realm t y = true ∧ isdF t x = isdF t y ∧ coreF t y = false := by
  obtain ⟨l, hl, k2, rfl, rfl⟩ := h
  obtain ⟨p1, p2, p3, p4, p5, p6, _⟩ := lkOk_parts (ht.ok _ hl)
  have h1 := realm_lt p1
  have h2 := realm_lt p2
  have := ht.n8
  exact ⟨h1.1, p3, by omega, p1, p2, p6 k2⟩
/-- a path of n steps from x down to y -/
def Pth (t : Tp) : Nat → Int → Int → Prop
  | 0, x, y => x = y
  | n + 1, x, y => ∃ z, Par t x z ∧ Pth t n z y
theorem Pth_snoc {t : Tp} : ∀ (n : Nat) (x y z : Int), Pth t n x z → Par t z y → Pth t (n + 1) x y
  | 0, x, y, z, h, hp => ⟨y, by rw [show x = z from h]; exact hp, rfl⟩
  | n + 1, x, y, z, ⟨w, h1, h2⟩, hp => ⟨w, h1, Pth_snoc n w y z h2 hp⟩
theorem Pth_last {t : Tp} : ∀ (n : Nat) (x y : Int), Pth t (n + 1) x y → ∃ z, Pth t n x z ∧ Par t z y
  | 0, x, y, ⟨z, h1, h2⟩ => ⟨x, rfl, by rw [← show z = y from h2]; exact h1⟩
  | n + 1, x, y, ⟨w, h1, h2⟩ => by
    obtain ⟨z, h3, h4⟩ := Pth_last n w y h2
    exact ⟨z, ⟨w, h1, h3⟩, h4⟩
theorem Pth_rng {t : Tp} (ht : Dt t) : ∀ (n : Nat) (x y : Int), Pth t (n + 1) x y → 0 ≤ x ∧ x < y ∧ y < 8 ∧ realm t x = true ∧ isdF t x = isdF t y ∧ coreF t y = false
  | 0, x, y, ⟨z, h1, h2⟩ => by
    obtain rfl : z = y := h2
    have := Par_rng ht h1
    exact ⟨this.1, this.2.1, this.2.2.1, this.2.2.2.1, this.2.2.2.2.2⟩
  | n + 1, x, y, ⟨z, h1, h2⟩ => by
    have a := Par_rng ht h1
    have b := Pth_rng ht n z y h2
    exact ⟨a.1, by omega, b.2.2.1, a.2.2.2.1, a.2.2.2.2.2.1.trans b.2.2.2.2.1, b.2.2.2.2.2⟩
theorem nS_up {t : Tp} (ht : Dt t) (r : Int) (k : Nat) : (nS t 3 r).testBit k = true ↔ Par t k r := by
  rcases Nat.lt_or_ge k 16 with h | h
  · rw [nS, mkSet_bit _ _ h, mem_up ht]
  · rw [bit_big (nS_lt _ _ _) h]
    exact ⟨fun e => absurd e (by simp), fun e => absurd (Par_rng ht e) (by omega)⟩
theorem nS_down {t : Tp} (ht : Dt t) (r : Int) (k : Nat) : (nS t 2 r).testBit k = true ↔ Par t r k := by
  rcases Nat.lt_or_ge k 16 with h | h
  · rw [nS, mkSet_bit _ _ h, mem_down ht]
  · rw [bit_big (nS_lt _ _ _) h]
    exact ⟨fun e => absurd e (by simp), fun e => absurd (Par_rng ht e) (by omega)⟩
theorem lev_up {t : Tp} (ht : Dt t) (r : Int) : ∀ (n k : Nat), (lev t 3 [r] (n + 1)).testBit k = true ↔ Pth t (n + 1) k r
  | 0, k => by
    rw [lev, nSL_bit]
    simp only [List.mem_singleton, exists_eq_left, nS_up ht]
    exact ⟨fun h => ⟨r, h, rfl⟩, fun ⟨z, h1, h2⟩ => by rw [← show z = r from h2]; exact h1⟩
  | n + 1, k => by
    rw [lev, stepS_bit t 3 (lev_lt _ _ _ _)]
    constructor
    · rintro ⟨z, _, h2, h3⟩
      exact ⟨z, (nS_up ht _ _).1 h3, (lev_up ht r n z).1 h2⟩
    · rintro ⟨z, h1, h2⟩
      have hz := Par_rng ht h1
      obtain ⟨m, rfl⟩ : ∃ m : Nat, z = (m : Int) := ⟨z.toNat, by omega⟩
      exact ⟨m, by omega, (lev_up ht r n m).2 h2, (nS_up ht _ _).2 h1⟩
theorem lev_down {t : Tp} (ht : Dt t) (r : Int) : ∀ (n k : Nat), (lev t 2 [r] (n + 1)).testBit k = true ↔ Pth t (n + 1) r k
  | 0, k => by
    rw [lev, nSL_bit]
    simp only [List.mem_singleton, exists_eq_left, nS_down ht]
    exact ⟨fun h => ⟨k, h, rfl⟩, fun ⟨z, h1, h2⟩ => by rw [← show z = k from h2]; exact h1⟩
  | n + 1, k => by
    rw [lev, stepS_bit t 2 (lev_lt _ _ _ _)]
    constructor
    · rintro ⟨z, _, h2, h3⟩
      exact Pth_snoc (n + 1) r k z ((lev_down ht r n z).1 h2) ((nS_down ht _ _).1 h3)
    · intro h
      obtain ⟨z, h1, h2⟩ := Pth_last (n + 1) r k h
      have hz := Par_rng ht h2
      obtain ⟨m, rfl⟩ : ∃ m : Nat, z = (m : Int) := ⟨z.toNat, by omega⟩
      exact ⟨m, by omega, (lev_down ht r n m).2 h1, (nS_down ht _ _).2 h2⟩
theorem upTo_bit (t : Tp) (kind : Int) (l : List Int) (k : Nat) : ∀ m, (upTo t kind l m).testBit k = true ↔ ∃ n, n < m ∧ (lev t kind l (n + 1)).testBit k = true
  | 0 => by simp [upTo]
  | m + 1 => by
    rw [upTo, union_bit, upTo_bit t kind l k m]
    constructor
    · rintro (⟨n, h1, h2⟩ | h)
      · exact ⟨n, by omega, h2⟩
      · exact ⟨m, by omega, h⟩
    · rintro ⟨n, h1, h2⟩
      by_cases e : n = m
      · subst e; exact .inr h2
      · exact .inl ⟨n, by omega, h2⟩
def anc (t : Tp) (r : Int) : Nat := upTo t 3 [r] 10
def desc (t : Tp) (r : Int) : Nat := upTo t 2 [r] 10
theorem mem_anc {t : Tp} (ht : Dt t) (r x : Int) : x ∈ elems (anc t r : Nat) ↔ ∃ n, n < 10 ∧ Pth t (n + 1) x r := by
  rw [anc, mem_elems (upTo_lt _ _ _ _), upTo_bit]
  constructor
  · rintro ⟨h1, h2, n, h3, h4⟩
    rw [lev_up ht, Int.toNat_of_nonneg h1] at h4
    exact ⟨n, h3, h4⟩
  · rintro ⟨n, h3, h4⟩
    have hr := Pth_rng ht n x r h4
    exact ⟨hr.1, by omega, n, h3, by rw [lev_up ht, Int.toNat_of_nonneg hr.1]; exact h4⟩
/-- an ancestor has the AS as a descendant, comes before it, and has its domain -/
theorem anc_ok {t : Tp} (ht : Dt t) {i : Nat} {x : Int} (h : x ∈ elems (anc t i : Nat)) : x < (i : Int) ∧ cont (desc t x : Nat) (i : Int) = true ∧ realm t x = true ∧ isdF t x = isdF t i ∧ coreF t i = false := by
  obtain ⟨n, hn, hp⟩ := (mem_anc ht i x).1 h
  have hr := Pth_rng ht n x i hp
  refine ⟨hr.2.1, ?_, hr.2.2.2.1, hr.2.2.2.2.1, hr.2.2.2.2.2⟩
  rw [desc, cont_nat (upTo_lt _ _ _ _) (by omega), upTo_bit]
  exact ⟨n, hn, (lev_down ht x n i).2 hp⟩
/-- how far up -/
def depGo (t : Tp) (r : Int) : Nat → Nat → Nat
  | 0, k => k
  | f + 1, k => if lev t 3 [r] (k + 1) = 0 then k else depGo t r f (k + 1)
def depth (t : Tp) (r : Int) : Nat := depGo t r 8 0
theorem depGo_le (t : Tp) (r : Int) : ∀ (f k : Nat), depGo t r f k ≤ k + f ∧ ∀ j, k ≤ j → j < depGo t r f k → lev t 3 [r] (j + 1) ≠ 0
  | 0, k => ⟨Nat.le_refl _, fun j h1 h2 => by simp [depGo] at h2; omega⟩
  | f + 1, k => by
    unfold depGo
    split
    · exact ⟨by omega, fun j h1 h2 => by omega⟩
    · rename_i hne
      obtain ⟨h1, h2⟩ := depGo_le t r f (k + 1)
      refine ⟨by omega, fun j h3 h4 => ?_⟩
      by_cases e : j = k
      · subst e; exact hne
      · exact h2 j (by omega) h4
theorem bit_of_ne {s : Nat} (h : s ≠ 0) : ∃ k, s.testBit k = true := by
  by_cases hc : ∃ k, s.testBit k = true
  · exact hc
  · exfalso
    apply h
    apply Nat.eq_of_testBit_eq
    intro k
    have : ¬ s.testBit k = true := fun e => hc ⟨k, e⟩
    simpa using this
theorem sub_len : ∀ (m l : List Int), l.Pairwise (· < ·) → m.Pairwise (· < ·) → (∀ x ∈ l, x ∈ m) → l.length ≤ m.length
  | _, [], _, _, _ => by simp
  | [], x :: l, _, _, h => by have := h x (by simp); simp at this
  | y :: m, x :: l, h1, h2, h => by
    rw [List.pairwise_cons] at h2
    have h1' := List.pairwise_cons.1 h1
    by_cases e : x = y
    · subst e
      have := sub_len m l h1'.2 h2.2 (fun z hz => by
        rcases List.mem_cons.1 (h z (by simp [hz])) with e | e
        · subst e; exact absurd (h1'.1 z hz) (Int.lt_irrefl z)
        · exact e)
      simp; omega
    · have hx : x ∈ m := by
        rcases List.mem_cons.1 (h x (by simp)) with e' | e'
        · exact absurd e' e
        · exact e'
      have := sub_len m (x :: l) h1 h2.2 (fun z hz => by
        rcases List.mem_cons.1 (h z hz) with e' | e'
        · subst e'
          rcases List.mem_cons.1 hz with e2 | e2
          · exact absurd e2.symm e
          · have a := h1'.1 z e2
            have b := h2.1 x hx
            omega
        · exact e')
      simp at this ⊢; omega
theorem chain_of {t : Tp} (ht : Dt t) : ∀ (n : Nat) (x r : Int), Pth t (n + 1) x r → ∃ l : List Int, l.length = n + 1 ∧ l.Pairwise (· < ·) ∧ ∀ y ∈ l, x ≤ y ∧ ∃ m, m ≤ n ∧ Pth t (m + 1) y r
  | 0, x, r, h => ⟨[x], rfl, by simp, by intro y hy; rw [List.mem_singleton] at hy; subst hy; exact ⟨Int.le_refl _, 0, Nat.le_refl _, h⟩⟩
  | n + 1, x, r, ⟨z, h1, h2⟩ => by
    obtain ⟨l, hl, hp, hm⟩ := chain_of ht n z r h2
    have hx := Par_rng ht h1
    refine ⟨x :: l, by simp [hl], ?_, ?_⟩
    · rw [List.pairwise_cons]
      exact ⟨fun y hy => by have := (hm y hy).1; omega, hp⟩
    · intro y hy
      rcases List.mem_cons.1 hy with e | e
      · subst e; exact ⟨Int.le_refl _, n + 1, Nat.le_refl _, z, h1, h2⟩
      · obtain ⟨a, m, b, c⟩ := hm y e
        exact ⟨by omega, m, by omega, c⟩
theorem depth_le {t : Tp} (ht : Dt t) (r : Int) : depth t r ≤ (elems (anc t r : Nat)).length := by
  obtain ⟨h1, h2⟩ := depGo_le t r 8 0
  rcases Nat.eq_zero_or_pos (depth t r) with e | e
  · omega
  · have hne := h2 (depth t r - 1) (by omega) (by unfold depth at *; omega)
    obtain ⟨k, hk⟩ := bit_of_ne hne
    rw [lev_up ht] at hk
    obtain ⟨l, hl, hp, hm⟩ := chain_of ht _ _ _ hk
    have := sub_len (elems (anc t r : Nat)) l hp (elemsK_sorted _ 16).1 (fun y hy => by
      obtain ⟨_, m, h3, h4⟩ := hm y hy
      have : depth t r ≤ 8 := by unfold depth; omega
      exact (mem_anc ht r y).2 ⟨m, by omega, h4⟩)
    omega
theorem depth_zero {t : Tp} (ht : Dt t) (r : Int) : depth t r = 0 ↔ (elems (anc t r : Nat)).length = 0 := by
  constructor
  · intro h
    rw [List.length_eq_zero_iff, List.eq_nil_iff_forall_not_mem]
    intro x hx
    obtain ⟨n, hn, hp⟩ := (mem_anc ht r x).1 hx
    obtain ⟨z, _, h2⟩ := Pth_last n x r hp
    have hz := Par_rng ht h2
    have hb : (lev t 3 [r] 1).testBit z.toNat = true := by
      rw [lev_up ht, Int.toNat_of_nonneg (by omega)]
      exact ⟨r, h2, rfl⟩
    unfold depth depGo at h
    split at h
    · rename_i e
      rw [e] at hb; simp at hb
    · have := (depGo_le t r 7 (0 + 1)).1
      have h3 : ∀ f k, k ≤ depGo t r f k := by
        intro f
        induction f with
        | zero => intro k; exact Nat.le_refl _
        | succ f ih => intro k; unfold depGo; split; exact Nat.le_refl _; exact Nat.le_trans (by omega) (ih (k + 1))
      have := h3 7 (0 + 1)
      omega
  · intro h
    have := depth_le ht r
    omega
theorem depGo_end (t : Tp) (r : Int) {k : Nat} (h : lev t 3 [r] (k + 1) = 0) : ∀ f, depGo t r f k = k
  | 0 => rfl
  | f + 1 => by rw [depGo, if_pos h]
def cComp (t : Tp) (r : Int) : Nat := if coreF t r = true then insN (upTo t 1 [r] 9) r else 0
theorem stepS_one (t : Tp) (kind : Int) (r : Nat) (h : r < 16) : stepS t kind (insN 0 (r : Int)) = nSL t kind [(r : Int)] := by
  apply Nat.eq_of_testBit_eq
  intro k
  apply Bool.eq_iff_iff.2
  rw [stepS_bit t kind (insN_lt _ (by decide)), nSL_bit]
  constructor
  · rintro ⟨q, h1, h2, h3⟩
    rw [insN_bit _ _ _ h1] at h2
    simp at h2
    have : r = q := by omega
    subst this
    exact ⟨(r : Int), by simp, h3⟩
  · rintro ⟨q, h1, h2⟩
    rw [List.mem_singleton] at h1
    subst h1
    exact ⟨r, h, by rw [insN_bit _ _ _ h]; simp, h2⟩
theorem insN_or (s : Nat) (r : Int) : insN s r = s ||| insN 0 r := by
  unfold insN; split <;> simp
theorem reach_one (t : Tp) (kind : Int) (r : Nat) (h : r < 16) : ∀ k, reachS t kind (insN 0 (r : Int)) k = insN (upTo t kind [(r : Int)] k) (r : Int)
  | 0 => by simp [reachS, upTo]
  | k + 1 => by
    have e1 := upTo_step t kind [(r : Int)] k
    have e2 : upTo t kind [(r : Int)] (k + 1) = upTo t kind [(r : Int)] k ||| lev t kind [(r : Int)] (k + 1) := rfl
    rw [reachS, reach_one t kind r h k, insN_or, stepS_or t kind (upTo_lt _ _ _ _) (insN_lt _ (by decide)), stepS_one t kind r h, insN_or (upTo t kind [(r : Int)] (k + 1))]
    apply Nat.eq_of_testBit_eq
    intro j
    apply Bool.eq_iff_iff.2
    simp only [union_bit]
    constructor
    · rintro ((a | a) | (a | a))
      · left; rw [e2, union_bit]; exact .inl a
      · exact .inr a
      · left; rw [e1, union_bit]; exact .inr a
      · left; rw [e1, union_bit]; exact .inl a
    · rintro (a | a)
      · rw [e1, union_bit] at a
        rcases a with a | a
        · exact .inr (.inr a)
        · exact .inr (.inl a)
      · exact .inl (.inr a)

theorem dep_lev (t : Tp) (r : Int) (k : Nat) : lev t 3 [r] (k + 1) = nSL t 3 (if k = 0 then [r] else elems (lev t 3 [r] k : Nat)) := by
  cases k with
  | zero => rfl
  | succ k => rfl
theorem depGo_no (t : Tp) (r : Int) {k f : Nat} (h : lev t 3 [r] (k + 1) ≠ 0) : depGo t r (f + 1) k = depGo t r f (k + 1) := by rw [depGo, if_neg h]

end Go.Proofs.Ytbinljboomkkdaa

/- The words of this part of the program (zf). -/
namespace Go.Proofs.Ytbinljboomkkdaa
open Go.RowKit
set_option linter.unusedSimpArgs false
set_option linter.unusedVariables false
set_option maxRecDepth 100000
/-- what a valid segment is -/
structure Vs (t : Tp) (s : Sg) (k : Int) : Prop where
  well : wellF t s = true
  ver : ∀ i, i < s.hops.length → verAt t s i = true
  core : coreF t (s.hops.getD 0 hz).asn = true
  knd : kindF t s.hops 0 = some k
  k12 : k = 1 ∨ k = 2
  ts : 0 ≤ s.ts ∧ s.ts ≤ 1000000
  be : 0 ≤ s.beta ∧ s.beta ≤ 2147483646
/-- the core ASes -/
def coresK (t : Tp) (k : Nat) : List Int := (List.range k).flatMap fun (i : Nat) => if coreF t i then [(i : Int)] else []
/-- a segment that is drawn -/
structure Gs (t : Tp) (kind : Int) (s : Sg) : Prop where
  ts : 0 ≤ s.ts ∧ s.ts ≤ 49
  be : 0 ≤ s.beta ∧ s.beta ≤ 999999
  len : s.hops.length ≤ 5
  ok : s.hops = [] ∨ Vs t s kind
/-- so far -/
structure Gi (t : Tp) (kind ts be : Int) (k : Nat) (H : List Hp) (r inn : Int) : Prop where
  len : H.length = k
  rl : realm t r = true
  fst : k = 0 → inn = 0 ∧ coreF t r = true
  nxt : 0 < k → (1 ≤ inn ∧ inn ≤ 6) ∧ Vs t ⟨ts, be, H⟩ kind ∧ (H.getD (H.length - 1) hz).eg ≠ 0 ∧ hasI (ases H) r = false ∧ remote t (H.getD (H.length - 1) hz).asn (H.getD (H.length - 1) hz).eg = (r, inn)
/-- the hop of the round -/
def grHop (t : Tp) (ts be : Int) (H : List Hp) (r inn out ex : Int) : Hp := authHop (keyOf t r) ts (betaAt ⟨ts, be, H⟩ H.length) ⟨r, inn, out, ex, 0⟩
end Go.Proofs.Ytbinljboomkkdaa
