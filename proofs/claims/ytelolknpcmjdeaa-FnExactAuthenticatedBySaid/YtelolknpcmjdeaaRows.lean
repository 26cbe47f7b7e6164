/-
  No cell of these rows narrows 'for every input' (looked for: loops, veiled, ifaces, maps, wideKeys, modest, calm, conditions, laid).
  DERIVED. THE GIVEN ROWS OF THIS SEAT. 11 by the template 'for every input the law returns true; each argument reads behind the call as it read before'; 0 by the template 'total and deterministic' (their statements: YtelolknpcmjdeaaTotals.lean).
  GIVEN WITH THE SEED: the statements are not yours to turn. If you find one false, say at which input.
  Laid BY PROGRAM, IN A SANDBOX (cutbox-rows.mjs): the forced cells as the released guide's own fill.sh prints them over the translation f8f7b7a309c77adc… (all of the seat's roots in one cut). By AI agents, Wed Nov 11 2026. No macro, syntax, notation, axiom, sorry.
-/
import Derived.Test.YtelolknpcmjdeaaChecked
import GoSem.Claim
import GoSem.ClaimJoined
import GoSem.ClaimMapViews
import Derived.JoinedTies
import Derived.KernelRfl
namespace Go.Proofs.Ytelolknpcmjdeaa
/- THE CELL 'sum', in the pinned program and in every row, IS THE sha256 OF THE DUMP (.gsa) THAT YtelolknpcmjdeaaProg.lean LOADS. Nothing in Lean hashes anything: it is a label: what it is worth is what the hold of that sum in a sandbox is worth. -/
noncomputable def Try.pinned : Pinned := { name := "ytelolknpcmjdeaa", sum := "f8f7b7a309c77adc34f66ce6ae354e03f9283436b602f7979bcd33755a7e2b19", checked := Try.checked }
namespace Rows
def none {H : Type} : Left H := { results := [], args := [] }

/-- 'laws.FnExactAuthenticatedBy': WHATEVER THE INPUT: true; the input reads as it did. -/
def fnExactAuthenticatedBySpec : ChangeSpec := { name := "fnExactAuthenticatedBy", fn := fun _ => fun
  | [d1, d2, d3] => { results := [.lit (.bool true)], args := [d1, d2, d3] }
  | _ => none }
def fnExactAuthenticatedByRow : OpenClaim := { program := "ytelolknpcmjdeaa", sum := "f8f7b7a309c77adc34f66ce6ae354e03f9283436b602f7979bcd33755a7e2b19", func := "loop.example/g00505/laws.FnExactAuthenticatedBy", spec := "fnExactAuthenticatedBy", apart := false }
def FnExactAuthenticatedBySaid : Prop := fnExactAuthenticatedByRow.holds Try.pinned (OpenSpec.ofChange fnExactAuthenticatedBySpec)

/-- ITS FALSE NEIGHBOUR: 'it returns false'. Refute it at one input. -/
def fnExactAuthenticatedByWrong : ChangeSpec := { name := "fnExactAuthenticatedBy", fn := fun _ => fun
  | [d1, d2, d3] => { results := [.lit (.bool false)], args := [d1, d2, d3] }
  | _ => none }
def FnExactAuthenticatedByWrongFalsely : Prop := fnExactAuthenticatedByRow.holds Try.pinned (OpenSpec.ofChange fnExactAuthenticatedByWrong)

/-- 'laws.FnExactFirstInvalidHop': WHATEVER THE INPUT: true; the input reads as it did. -/
def fnExactFirstInvalidHopSpec : ChangeSpec := { name := "fnExactFirstInvalidHop", fn := fun _ => fun
  | [d1, d2] => { results := [.lit (.bool true)], args := [d1, d2] }
  | _ => none }
def fnExactFirstInvalidHopRow : OpenClaim := { program := "ytelolknpcmjdeaa", sum := "f8f7b7a309c77adc34f66ce6ae354e03f9283436b602f7979bcd33755a7e2b19", func := "loop.example/g00505/laws.FnExactFirstInvalidHop", spec := "fnExactFirstInvalidHop", apart := false }
def FnExactFirstInvalidHopSaid : Prop := fnExactFirstInvalidHopRow.holds Try.pinned (OpenSpec.ofChange fnExactFirstInvalidHopSpec)

/-- ITS FALSE NEIGHBOUR: 'it returns false'. Refute it at one input. -/
def fnExactFirstInvalidHopWrong : ChangeSpec := { name := "fnExactFirstInvalidHop", fn := fun _ => fun
  | [d1, d2] => { results := [.lit (.bool false)], args := [d1, d2] }
  | _ => none }
def FnExactFirstInvalidHopWrongFalsely : Prop := fnExactFirstInvalidHopRow.holds Try.pinned (OpenSpec.ofChange fnExactFirstInvalidHopWrong)

/-- 'laws.FnExactWellFormed': WHATEVER THE INPUT: true; the input reads as it did. -/
def fnExactWellFormedSpec : ChangeSpec := { name := "fnExactWellFormed", fn := fun _ => fun
  | [d1, d2] => { results := [.lit (.bool true)], args := [d1, d2] }
  | _ => none }
def fnExactWellFormedRow : OpenClaim := { program := "ytelolknpcmjdeaa", sum := "f8f7b7a309c77adc34f66ce6ae354e03f9283436b602f7979bcd33755a7e2b19", func := "loop.example/g00505/laws.FnExactWellFormed", spec := "fnExactWellFormed", apart := false }
def FnExactWellFormedSaid : Prop := fnExactWellFormedRow.holds Try.pinned (OpenSpec.ofChange fnExactWellFormedSpec)

/-- ITS FALSE NEIGHBOUR: 'it returns false'. Refute it at one input. -/
def fnExactWellFormedWrong : ChangeSpec := { name := "fnExactWellFormed", fn := fun _ => fun
  | [d1, d2] => { results := [.lit (.bool false)], args := [d1, d2] }
  | _ => none }
def FnExactWellFormedWrongFalsely : Prop := fnExactWellFormedRow.holds Try.pinned (OpenSpec.ofChange fnExactWellFormedWrong)

/-- 'laws.FnExactSegmentKind': WHATEVER THE INPUT: true; the input reads as it did. -/
def fnExactSegmentKindSpec : ChangeSpec := { name := "fnExactSegmentKind", fn := fun _ => fun
  | [d1, d2] => { results := [.lit (.bool true)], args := [d1, d2] }
  | _ => none }
def fnExactSegmentKindRow : OpenClaim := { program := "ytelolknpcmjdeaa", sum := "f8f7b7a309c77adc34f66ce6ae354e03f9283436b602f7979bcd33755a7e2b19", func := "loop.example/g00505/laws.FnExactSegmentKind", spec := "fnExactSegmentKind", apart := false }
def FnExactSegmentKindSaid : Prop := fnExactSegmentKindRow.holds Try.pinned (OpenSpec.ofChange fnExactSegmentKindSpec)

/-- ITS FALSE NEIGHBOUR: 'it returns false'. Refute it at one input. -/
def fnExactSegmentKindWrong : ChangeSpec := { name := "fnExactSegmentKind", fn := fun _ => fun
  | [d1, d2] => { results := [.lit (.bool false)], args := [d1, d2] }
  | _ => none }
def FnExactSegmentKindWrongFalsely : Prop := fnExactSegmentKindRow.holds Try.pinned (OpenSpec.ofChange fnExactSegmentKindWrong)

/-- 'laws.FnExactOriginate': WHATEVER THE INPUT: true; the input reads as it did. -/
def fnExactOriginateSpec : ChangeSpec := { name := "fnExactOriginate", fn := fun _ => fun
  | [d1, d2, d3, d4, d5, d6] => { results := [.lit (.bool true)], args := [d1, d2, d3, d4, d5, d6] }
  | _ => none }
def fnExactOriginateRow : OpenClaim := { program := "ytelolknpcmjdeaa", sum := "f8f7b7a309c77adc34f66ce6ae354e03f9283436b602f7979bcd33755a7e2b19", func := "loop.example/g00505/laws.FnExactOriginate", spec := "fnExactOriginate", apart := false }
def FnExactOriginateSaid : Prop := fnExactOriginateRow.holds Try.pinned (OpenSpec.ofChange fnExactOriginateSpec)

/-- ITS FALSE NEIGHBOUR: 'it returns false'. Refute it at one input. -/
def fnExactOriginateWrong : ChangeSpec := { name := "fnExactOriginate", fn := fun _ => fun
  | [d1, d2, d3, d4, d5, d6] => { results := [.lit (.bool false)], args := [d1, d2, d3, d4, d5, d6] }
  | _ => none }
def FnExactOriginateWrongFalsely : Prop := fnExactOriginateRow.holds Try.pinned (OpenSpec.ofChange fnExactOriginateWrong)

/-- 'laws.FnExactValidSegment': WHATEVER THE INPUT: true; the input reads as it did. -/
def fnExactValidSegmentSpec : ChangeSpec := { name := "fnExactValidSegment", fn := fun _ => fun
  | [d1, d2] => { results := [.lit (.bool true)], args := [d1, d2] }
  | _ => none }
def fnExactValidSegmentRow : OpenClaim := { program := "ytelolknpcmjdeaa", sum := "f8f7b7a309c77adc34f66ce6ae354e03f9283436b602f7979bcd33755a7e2b19", func := "loop.example/g00505/laws.FnExactValidSegment", spec := "fnExactValidSegment", apart := false }
def FnExactValidSegmentSaid : Prop := fnExactValidSegmentRow.holds Try.pinned (OpenSpec.ofChange fnExactValidSegmentSpec)

/-- ITS FALSE NEIGHBOUR: 'it returns false'. Refute it at one input. -/
def fnExactValidSegmentWrong : ChangeSpec := { name := "fnExactValidSegment", fn := fun _ => fun
  | [d1, d2] => { results := [.lit (.bool false)], args := [d1, d2] }
  | _ => none }
def FnExactValidSegmentWrongFalsely : Prop := fnExactValidSegmentRow.holds Try.pinned (OpenSpec.ofChange fnExactValidSegmentWrong)

/-- 'laws.FnExactCanExtend': WHATEVER THE INPUT: true; the input reads as it did. -/
def fnExactCanExtendSpec : ChangeSpec := { name := "fnExactCanExtend", fn := fun _ => fun
  | [d1, d2, d3, d4] => { results := [.lit (.bool true)], args := [d1, d2, d3, d4] }
  | _ => none }
def fnExactCanExtendRow : OpenClaim := { program := "ytelolknpcmjdeaa", sum := "f8f7b7a309c77adc34f66ce6ae354e03f9283436b602f7979bcd33755a7e2b19", func := "loop.example/g00505/laws.FnExactCanExtend", spec := "fnExactCanExtend", apart := false }
def FnExactCanExtendSaid : Prop := fnExactCanExtendRow.holds Try.pinned (OpenSpec.ofChange fnExactCanExtendSpec)

/-- ITS FALSE NEIGHBOUR: 'it returns false'. Refute it at one input. -/
def fnExactCanExtendWrong : ChangeSpec := { name := "fnExactCanExtend", fn := fun _ => fun
  | [d1, d2, d3, d4] => { results := [.lit (.bool false)], args := [d1, d2, d3, d4] }
  | _ => none }
def FnExactCanExtendWrongFalsely : Prop := fnExactCanExtendRow.holds Try.pinned (OpenSpec.ofChange fnExactCanExtendWrong)

/-- 'laws.FnHops': WHATEVER THE INPUT: true; the input reads as it did. -/
def fnHopsSpec : ChangeSpec := { name := "fnHops", fn := fun _ => fun
  | [d] => { results := [.lit (.bool true)], args := [d] }
  | _ => none }
def fnHopsRow : OpenClaim := { program := "ytelolknpcmjdeaa", sum := "f8f7b7a309c77adc34f66ce6ae354e03f9283436b602f7979bcd33755a7e2b19", func := "loop.example/g00505/laws.FnHops", spec := "fnHops", apart := false }
def FnHopsSaid : Prop := fnHopsRow.holds Try.pinned (OpenSpec.ofChange fnHopsSpec)

/-- ITS FALSE NEIGHBOUR: 'it returns false'. Refute it at one input. -/
def fnHopsWrong : ChangeSpec := { name := "fnHops", fn := fun _ => fun
  | [d] => { results := [.lit (.bool false)], args := [d] }
  | _ => none }
def FnHopsWrongFalsely : Prop := fnHopsRow.holds Try.pinned (OpenSpec.ofChange fnHopsWrong)

/-- 'laws.FnShapes': WHATEVER THE INPUT: true; the input reads as it did. -/
def fnShapesSpec : ChangeSpec := { name := "fnShapes", fn := fun _ => fun
  | [d] => { results := [.lit (.bool true)], args := [d] }
  | _ => none }
def fnShapesRow : OpenClaim := { program := "ytelolknpcmjdeaa", sum := "f8f7b7a309c77adc34f66ce6ae354e03f9283436b602f7979bcd33755a7e2b19", func := "loop.example/g00505/laws.FnShapes", spec := "fnShapes", apart := false }
def FnShapesSaid : Prop := fnShapesRow.holds Try.pinned (OpenSpec.ofChange fnShapesSpec)

/-- ITS FALSE NEIGHBOUR: 'it returns false'. Refute it at one input. -/
def fnShapesWrong : ChangeSpec := { name := "fnShapes", fn := fun _ => fun
  | [d] => { results := [.lit (.bool false)], args := [d] }
  | _ => none }
def FnShapesWrongFalsely : Prop := fnShapesRow.holds Try.pinned (OpenSpec.ofChange fnShapesWrong)

/-- 'laws.FnBegins': WHATEVER THE INPUT: true; the input reads as it did. -/
def fnBeginsSpec : ChangeSpec := { name := "fnBegins", fn := fun _ => fun
  | [d] => { results := [.lit (.bool true)], args := [d] }
  | _ => none }
def fnBeginsRow : OpenClaim := { program := "ytelolknpcmjdeaa", sum := "f8f7b7a309c77adc34f66ce6ae354e03f9283436b602f7979bcd33755a7e2b19", func := "loop.example/g00505/laws.FnBegins", spec := "fnBegins", apart := false }
def FnBeginsSaid : Prop := fnBeginsRow.holds Try.pinned (OpenSpec.ofChange fnBeginsSpec)

/-- ITS FALSE NEIGHBOUR: 'it returns false'. Refute it at one input. -/
def fnBeginsWrong : ChangeSpec := { name := "fnBegins", fn := fun _ => fun
  | [d] => { results := [.lit (.bool false)], args := [d] }
  | _ => none }
def FnBeginsWrongFalsely : Prop := fnBeginsRow.holds Try.pinned (OpenSpec.ofChange fnBeginsWrong)

/-- 'laws.FnPolicies': WHATEVER THE INPUT: true; the input reads as it did. -/
def fnPoliciesSpec : ChangeSpec := { name := "fnPolicies", fn := fun _ => fun
  | [d] => { results := [.lit (.bool true)], args := [d] }
  | _ => none }
def fnPoliciesRow : OpenClaim := { program := "ytelolknpcmjdeaa", sum := "f8f7b7a309c77adc34f66ce6ae354e03f9283436b602f7979bcd33755a7e2b19", func := "loop.example/g00505/laws.FnPolicies", spec := "fnPolicies", apart := false }
def FnPoliciesSaid : Prop := fnPoliciesRow.holds Try.pinned (OpenSpec.ofChange fnPoliciesSpec)

/-- ITS FALSE NEIGHBOUR: 'it returns false'. Refute it at one input. -/
def fnPoliciesWrong : ChangeSpec := { name := "fnPolicies", fn := fun _ => fun
  | [d] => { results := [.lit (.bool false)], args := [d] }
  | _ => none }
def FnPoliciesWrongFalsely : Prop := fnPoliciesRow.holds Try.pinned (OpenSpec.ofChange fnPoliciesWrong)

/- THE SECOND FORM. 'bulk': how many values and letters a reading holds, each counted each time it is reached (what is shared counts as often as it is met; a slice's spare places count too). A statement '..UptoSaid' is the law's where the arguments, and the package variables that the reading takes, are together of bulk at most 1048576: NARROWER than '..Said'. Prove '..Said' where nothing that the law and all that it calls make is longer than what came in: it says more and counts as full. Else prove '..UptoSaid'. A law counts once. -/
mutual
def uptoBulk {H : Type} : DataW H → Nat
  | .lit (.string bytes) => bytes.length + 1
  | .lit _ => 1
  | .nil => 1
  | .ptr d => uptoBulk d + 1
  | .slice elems spare => uptoBulkAll elems + uptoBulkAll spare + 1
  | .agg parts => uptoBulkAll parts + 1
  | .iface _ d => uptoBulk d + 1
  | .map entries => uptoBulkEntries entries + 1
  | .held _ => 1
def uptoBulkAll {H : Type} : List (DataW H) → Nat
  | [] => 0
  | d :: r => uptoBulk d + uptoBulkAll r
def uptoBulkEntries {H : Type} : List (Lit × DataW H) → Nat
  | [] => 0
  | x :: r => uptoBulkEntry x + uptoBulkEntries r
def uptoBulkEntry {H : Type} : Lit × DataW H → Nat
  | (.string bytes, d) => bytes.length + uptoBulk d + 1
  | (_, d) => uptoBulk d + 1
 end
def uptoSmall : (H : Type) → List (DataW H) → Bool := fun _ ds => decide (uptoBulkAll ds ≤ 1048576)
def OpenSpec.upto (s : _root_.Go.ChangeSpec) : _root_.Go.OpenSpec := { _root_.Go.OpenSpec.ofChange s with cond := some uptoSmall }

/-- 'laws.FnExactAuthenticatedBy', WHERE WHAT IT READS IS OF BULK AT MOST 1048576: true; the input reads as it did. -/
def fnExactAuthenticatedByUptoRow : OpenClaim := { program := "ytelolknpcmjdeaa", sum := "f8f7b7a309c77adc34f66ce6ae354e03f9283436b602f7979bcd33755a7e2b19", func := "loop.example/g00505/laws.FnExactAuthenticatedBy", spec := "fnExactAuthenticatedBy", apart := false, narrowed := true }
def FnExactAuthenticatedByUptoSaid : Prop := fnExactAuthenticatedByUptoRow.holds Try.pinned (OpenSpec.upto fnExactAuthenticatedBySpec)

/-- 'laws.FnExactFirstInvalidHop', WHERE WHAT IT READS IS OF BULK AT MOST 1048576: true; the input reads as it did. -/
def fnExactFirstInvalidHopUptoRow : OpenClaim := { program := "ytelolknpcmjdeaa", sum := "f8f7b7a309c77adc34f66ce6ae354e03f9283436b602f7979bcd33755a7e2b19", func := "loop.example/g00505/laws.FnExactFirstInvalidHop", spec := "fnExactFirstInvalidHop", apart := false, narrowed := true }
def FnExactFirstInvalidHopUptoSaid : Prop := fnExactFirstInvalidHopUptoRow.holds Try.pinned (OpenSpec.upto fnExactFirstInvalidHopSpec)

/-- 'laws.FnExactWellFormed', WHERE WHAT IT READS IS OF BULK AT MOST 1048576: true; the input reads as it did. -/
def fnExactWellFormedUptoRow : OpenClaim := { program := "ytelolknpcmjdeaa", sum := "f8f7b7a309c77adc34f66ce6ae354e03f9283436b602f7979bcd33755a7e2b19", func := "loop.example/g00505/laws.FnExactWellFormed", spec := "fnExactWellFormed", apart := false, narrowed := true }
def FnExactWellFormedUptoSaid : Prop := fnExactWellFormedUptoRow.holds Try.pinned (OpenSpec.upto fnExactWellFormedSpec)

/-- 'laws.FnExactSegmentKind', WHERE WHAT IT READS IS OF BULK AT MOST 1048576: true; the input reads as it did. -/
def fnExactSegmentKindUptoRow : OpenClaim := { program := "ytelolknpcmjdeaa", sum := "f8f7b7a309c77adc34f66ce6ae354e03f9283436b602f7979bcd33755a7e2b19", func := "loop.example/g00505/laws.FnExactSegmentKind", spec := "fnExactSegmentKind", apart := false, narrowed := true }
def FnExactSegmentKindUptoSaid : Prop := fnExactSegmentKindUptoRow.holds Try.pinned (OpenSpec.upto fnExactSegmentKindSpec)

/-- 'laws.FnExactOriginate', WHERE WHAT IT READS IS OF BULK AT MOST 1048576: true; the input reads as it did. -/
def fnExactOriginateUptoRow : OpenClaim := { program := "ytelolknpcmjdeaa", sum := "f8f7b7a309c77adc34f66ce6ae354e03f9283436b602f7979bcd33755a7e2b19", func := "loop.example/g00505/laws.FnExactOriginate", spec := "fnExactOriginate", apart := false, narrowed := true }
def FnExactOriginateUptoSaid : Prop := fnExactOriginateUptoRow.holds Try.pinned (OpenSpec.upto fnExactOriginateSpec)

/-- 'laws.FnExactValidSegment', WHERE WHAT IT READS IS OF BULK AT MOST 1048576: true; the input reads as it did. -/
def fnExactValidSegmentUptoRow : OpenClaim := { program := "ytelolknpcmjdeaa", sum := "f8f7b7a309c77adc34f66ce6ae354e03f9283436b602f7979bcd33755a7e2b19", func := "loop.example/g00505/laws.FnExactValidSegment", spec := "fnExactValidSegment", apart := false, narrowed := true }
def FnExactValidSegmentUptoSaid : Prop := fnExactValidSegmentUptoRow.holds Try.pinned (OpenSpec.upto fnExactValidSegmentSpec)

/-- 'laws.FnExactCanExtend', WHERE WHAT IT READS IS OF BULK AT MOST 1048576: true; the input reads as it did. -/
def fnExactCanExtendUptoRow : OpenClaim := { program := "ytelolknpcmjdeaa", sum := "f8f7b7a309c77adc34f66ce6ae354e03f9283436b602f7979bcd33755a7e2b19", func := "loop.example/g00505/laws.FnExactCanExtend", spec := "fnExactCanExtend", apart := false, narrowed := true }
def FnExactCanExtendUptoSaid : Prop := fnExactCanExtendUptoRow.holds Try.pinned (OpenSpec.upto fnExactCanExtendSpec)

/-- 'laws.FnHops', WHERE WHAT IT READS IS OF BULK AT MOST 1048576: true; the input reads as it did. -/
def fnHopsUptoRow : OpenClaim := { program := "ytelolknpcmjdeaa", sum := "f8f7b7a309c77adc34f66ce6ae354e03f9283436b602f7979bcd33755a7e2b19", func := "loop.example/g00505/laws.FnHops", spec := "fnHops", apart := false, narrowed := true }
def FnHopsUptoSaid : Prop := fnHopsUptoRow.holds Try.pinned (OpenSpec.upto fnHopsSpec)

/-- 'laws.FnShapes', WHERE WHAT IT READS IS OF BULK AT MOST 1048576: true; the input reads as it did. -/
def fnShapesUptoRow : OpenClaim := { program := "ytelolknpcmjdeaa", sum := "f8f7b7a309c77adc34f66ce6ae354e03f9283436b602f7979bcd33755a7e2b19", func := "loop.example/g00505/laws.FnShapes", spec := "fnShapes", apart := false, narrowed := true }
def FnShapesUptoSaid : Prop := fnShapesUptoRow.holds Try.pinned (OpenSpec.upto fnShapesSpec)

/-- 'laws.FnBegins', WHERE WHAT IT READS IS OF BULK AT MOST 1048576: true; the input reads as it did. -/
def fnBeginsUptoRow : OpenClaim := { program := "ytelolknpcmjdeaa", sum := "f8f7b7a309c77adc34f66ce6ae354e03f9283436b602f7979bcd33755a7e2b19", func := "loop.example/g00505/laws.FnBegins", spec := "fnBegins", apart := false, narrowed := true }
def FnBeginsUptoSaid : Prop := fnBeginsUptoRow.holds Try.pinned (OpenSpec.upto fnBeginsSpec)

/-- 'laws.FnPolicies', WHERE WHAT IT READS IS OF BULK AT MOST 1048576: true; the input reads as it did. -/
def fnPoliciesUptoRow : OpenClaim := { program := "ytelolknpcmjdeaa", sum := "f8f7b7a309c77adc34f66ce6ae354e03f9283436b602f7979bcd33755a7e2b19", func := "loop.example/g00505/laws.FnPolicies", spec := "fnPolicies", apart := false, narrowed := true }
def FnPoliciesUptoSaid : Prop := fnPoliciesUptoRow.holds Try.pinned (OpenSpec.upto fnPoliciesSpec)

end Rows
end Go.Proofs.Ytelolknpcmjdeaa
