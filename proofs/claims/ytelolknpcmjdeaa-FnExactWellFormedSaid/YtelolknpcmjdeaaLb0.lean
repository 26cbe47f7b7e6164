/- The words of this part of the program (b). -/
import Derived.Test.YtelolknpcmjdeaaLa0
namespace Go.Proofs.Ytelolknpcmjdeaa
open Go.RowKit
set_option linter.unusedSimpArgs false
set_option linter.unusedVariables false
set_option maxRecDepth 100000
def union (a b : Int) : Int := if inR a 0 65535 && inR b 0 65535 then IntKind.i64.wrap (BitVec.ofInt IntKind.i64.bits a ||| BitVec.ofInt IntKind.i64.bits b).toNat else 0
def validPol (p : Pl) : Bool := inR p.ml 1 8 && inR p.den 0 65535 && inR p.clo 0 65535 && inR p.life 1 1000
def validHop (h : Hp) : Bool := inR h.asn 0 7 && inR h.ing 0 6 && inR h.eg 0 6 && (h.ing != h.eg) && inR h.ex 0 1000000 && inR h.mac 0 2147483646
def defPol : Pl := ⟨8, 0, 0, 100⟩

def polFor (l : List Pl) (r : Int) : Pl := if h : 0 ≤ r ∧ r.toNat < l.length then (if validPol l[r.toNat] then l[r.toNat] else defPol) else defPol

end Go.Proofs.Ytelolknpcmjdeaa
