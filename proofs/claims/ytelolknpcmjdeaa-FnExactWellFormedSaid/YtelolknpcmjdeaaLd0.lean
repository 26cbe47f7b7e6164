/- The words of this part of the program (d). -/
import Derived.Test.YtelolknpcmjdeaaLc0
namespace Go.Proofs.Ytelolknpcmjdeaa
open Go.RowKit
set_option linter.unusedSimpArgs false
set_option linter.unusedVariables false
set_option maxRecDepth 100000
abbrev intRow (n : Int) : List D := [.int .i64 n]
theorem isInts {x : D} (h : IsC (.slice [.int .i64]) x) : ∃ l : List Int, x = .sl (l.map intRow) ∧ l.length ≤ maxLen := by
  refine isRows (fun x hx => ?_) h
  simp only [IsL] at hx
  obtain ⟨_, _, rfl, h1, rfl⟩ := hx
  obtain ⟨a, rfl⟩ := isInt h1
  exact ⟨a, rfl⟩
theorem rowLen_map {α : Type} {f : α → List D} {s : Nat} {l : List α} (h : ∀ a, (f a).length = s) : RowLen (l.map f) s := by
  intro r hr
  obtain ⟨a, _, rfl⟩ := List.mem_map.1 hr
  exact h a
theorem rowLen_ints (l : List Int) : RowLen (l.map intRow) 1 := rowLen_map fun _ => rfl
theorem rowLen_nil (s : Nat) : RowLen [] s := by intro r hr; simp at hr
theorem rowLen_cons (r : List D) (l : List (List D)) (s : Nat) : RowLen (r :: l) s = (r.length = s ∧ RowLen l s) := by simp [RowLen]
theorem rowLen_append (l m : List (List D)) (s : Nat) : RowLen (l ++ m) s = (RowLen l s ∧ RowLen m s) := by
  simp only [RowLen, List.mem_append, eq_iff_iff]
  exact ⟨fun h => ⟨fun r hr => h r (.inl hr), fun r hr => h r (.inr hr)⟩, fun h r hr => hr.elim (h.1 r) (h.2 r)⟩

def modZ (n m : Int) : Int := if inR m 1 1000000000000 then (IntKind.i64.wrap (n.tmod m + m)).tmod m else 0
def digStep (d x : Int) : Int := (IntKind.i64.wrap (IntKind.i64.wrap (IntKind.i64.wrap (d * 1000003) + modZ x 2147483647) + 11)).tmod 2147483647
def digest (l : List Int) : Int := l.foldl digStep 7
theorem digest_step (l : List Int) (k : Nat) (h : k < l.length) : digest (l.take (k + 1)) = digStep (digest (l.take k)) l[k] := by
  rw [List.take_succ_eq_append_getElem h]; simp only [digest, List.foldl_append, List.foldl_cons, List.foldl_nil]
def mac (key : Int) (l : List Int) : Int := digest (key :: (l ++ [key]))

def hopMac (key ts be : Int) (h : Hp) : Int := mac key [ts, be, h.asn, h.ing, h.eg, h.ex]
def authHop (key ts be : Int) (h : Hp) : Hp := ⟨h.asn, h.ing, h.eg, h.ex, hopMac key ts be h⟩

end Go.Proofs.Ytelolknpcmjdeaa
