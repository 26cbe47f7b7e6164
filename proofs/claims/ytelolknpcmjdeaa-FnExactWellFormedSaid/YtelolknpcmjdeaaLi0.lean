/- The words of this part of the program (i). -/
import Derived.Test.YtelolknpcmjdeaaLh0
namespace Go.Proofs.Ytelolknpcmjdeaa
open Go.RowKit
set_option linter.unusedSimpArgs false
set_option linter.unusedVariables false
set_option maxRecDepth 100000
def addM2 (b s : Int) : Int := if inR b 0 2147483646 && inR s 0 2147483646 then (IntKind.i64.wrap (b + s)).tmod 2147483647 else 0
def chainA (b : Int) (l : List Int) : Int := l.foldl addM2 b
theorem chainA_step (b : Int) (l : List Int) (k : Nat) (h : k < l.length) : chainA b (l.take (k + 1)) = addM2 (chainA b (l.take k)) l[k] := by
  rw [List.take_succ_eq_append_getElem h]; simp only [chainA, List.foldl_append, List.foldl_cons, List.foldl_nil]
def macs (l : List Hp) : List Int := l.map Hp.mac
def ases (l : List Hp) : List Int := l.map Hp.asn
theorem ases_step (l : List Hp) (k : Nat) (h : k < l.length) : (ases (l.take (k + 1))).map intRow = (ases (l.take k)).map intRow ++ [intRow l[k].asn] := by
  rw [List.take_succ_eq_append_getElem h]; simp only [ases, List.map_append, List.map_cons, List.map_nil]
theorem macs_step (l : List Hp) (k : Nat) (h : k < l.length) : (macs (l.take (k + 1))).map intRow = (macs (l.take k)).map intRow ++ [intRow l[k].mac] := by
  rw [List.take_succ_eq_append_getElem h]; simp only [macs, List.map_append, List.map_cons, List.map_nil]
theorem ases_len (l : List Hp) (k : Nat) : (ases (l.take k)).length ≤ l.length := by simp only [ases, List.length_map, List.length_take]; omega
theorem macs_len (l : List Hp) (k : Nat) : (macs (l.take k)).length ≤ l.length := by simp only [macs, List.length_map, List.length_take]; omega
def betaAt (s : Sg) (i : Int) : Int := if inR i 0 s.hops.length then chainA s.beta (macs (s.hops.take i.toNat)) else 0

def allows (p : Pl) (s : Sg) (out : Int) : Bool := decide ((s.hops.length : Int) < p.ml) && !cont p.clo out && (ases s.hops).all fun r => !cont p.den r
theorem all_stepI {l : List Int} {p : Int → Bool} {k : Nat} (h : k < l.length) : (l.take (k + 1)).all p = ((l.take k).all p && p l[k]) := by
  rw [List.take_succ_eq_append_getElem h]; simp only [List.all_append, List.all_cons, List.all_nil, Bool.and_true]
theorem not_allI {l : List Int} {p : Int → Bool} {k : Nat} (h : k < l.length) (hp : p l[k] = false) : l.all p = false := by
  rw [List.all_eq_false]; exact ⟨l[k], List.getElem_mem h, by simp [hp]⟩

end Go.Proofs.Ytelolknpcmjdeaa
