/-
  No cell of these rows narrows 'for every input' (looked for: loops, veiled, ifaces, maps, wideKeys, modest, calm, conditions, laid).
  DERIVED. THE GIVEN ROWS OF THIS SEAT. 11 by the template 'for every input the law returns true; each argument reads behind the call as it read before'; 0 by the template 'total and deterministic' (their statements: YtbinljboomkkdaaTotals.lean).
  GIVEN WITH THE SEED: the statements are not yours to turn. If you find one false, say at which input.
  Laid BY PROGRAM, IN A SANDBOX (cutbox-rows.mjs): the forced cells as the released guide's own fill.sh prints them over the translation 7eec8793c44ed650… (all of the seat's roots in one cut). By AI agents, Wed Nov 11 2026. No macro, syntax, notation, axiom, sorry.
-/
import Derived.Test.YtbinljboomkkdaaChecked
import GoSem.Claim
import GoSem.ClaimJoined
import GoSem.ClaimMapViews
import Derived.JoinedTies
import Derived.KernelRfl
namespace Go.Proofs.Ytbinljboomkkdaa
/- THE CELL 'sum', in the pinned program and in every row, IS THE sha256 OF THE DUMP (.gsa) THAT YtbinljboomkkdaaProg.lean LOADS. Nothing in Lean hashes anything: it is a label: what it is worth is what the hold of that sum in a sandbox is worth. -/
noncomputable def Try.pinned : Pinned := { name := "ytbinljboomkkdaa", sum := "7eec8793c44ed650978ca81d2adf79c65dda0136f9e27f70410039154884f186", checked := Try.checked }
namespace Rows
def none {H : Type} : Left H := { results := [], args := [] }

/-- 'laws.FnExactAppendHop': WHATEVER THE INPUT: true; the input reads as it did. -/
def fnExactAppendHopSpec : ChangeSpec := { name := "fnExactAppendHop", fn := fun _ => fun
  | [d1, d2] => { results := [.lit (.bool true)], args := [d1, d2] }
  | _ => none }
def fnExactAppendHopRow : OpenClaim := { program := "ytbinljboomkkdaa", sum := "7eec8793c44ed650978ca81d2adf79c65dda0136f9e27f70410039154884f186", func := "loop.example/g00505/laws.FnExactAppendHop", spec := "fnExactAppendHop", apart := false }
def FnExactAppendHopSaid : Prop := fnExactAppendHopRow.holds Try.pinned (OpenSpec.ofChange fnExactAppendHopSpec)

/-- ITS FALSE NEIGHBOUR: 'it returns false'. Refute it at one input. -/
def fnExactAppendHopWrong : ChangeSpec := { name := "fnExactAppendHop", fn := fun _ => fun
  | [d1, d2] => { results := [.lit (.bool false)], args := [d1, d2] }
  | _ => none }
def FnExactAppendHopWrongFalsely : Prop := fnExactAppendHopRow.holds Try.pinned (OpenSpec.ofChange fnExactAppendHopWrong)

/-- 'laws.FnExactReadHop': WHATEVER THE INPUT: true; the input reads as it did. -/
def fnExactReadHopSpec : ChangeSpec := { name := "fnExactReadHop", fn := fun _ => fun
  | [d1, d2] => { results := [.lit (.bool true)], args := [d1, d2] }
  | _ => none }
def fnExactReadHopRow : OpenClaim := { program := "ytbinljboomkkdaa", sum := "7eec8793c44ed650978ca81d2adf79c65dda0136f9e27f70410039154884f186", func := "loop.example/g00505/laws.FnExactReadHop", spec := "fnExactReadHop", apart := false }
def FnExactReadHopSaid : Prop := fnExactReadHopRow.holds Try.pinned (OpenSpec.ofChange fnExactReadHopSpec)

/-- ITS FALSE NEIGHBOUR: 'it returns false'. Refute it at one input. -/
def fnExactReadHopWrong : ChangeSpec := { name := "fnExactReadHop", fn := fun _ => fun
  | [d1, d2] => { results := [.lit (.bool false)], args := [d1, d2] }
  | _ => none }
def FnExactReadHopWrongFalsely : Prop := fnExactReadHopRow.holds Try.pinned (OpenSpec.ofChange fnExactReadHopWrong)

/-- 'laws.FnExactStripMACs': WHATEVER THE INPUT: true; the input reads as it did. -/
def fnExactStripMACsSpec : ChangeSpec := { name := "fnExactStripMACs", fn := fun _ => fun
  | [d] => { results := [.lit (.bool true)], args := [d] }
  | _ => none }
def fnExactStripMACsRow : OpenClaim := { program := "ytbinljboomkkdaa", sum := "7eec8793c44ed650978ca81d2adf79c65dda0136f9e27f70410039154884f186", func := "loop.example/g00505/laws.FnExactStripMACs", spec := "fnExactStripMACs", apart := false }
def FnExactStripMACsSaid : Prop := fnExactStripMACsRow.holds Try.pinned (OpenSpec.ofChange fnExactStripMACsSpec)

/-- ITS FALSE NEIGHBOUR: 'it returns false'. Refute it at one input. -/
def fnExactStripMACsWrong : ChangeSpec := { name := "fnExactStripMACs", fn := fun _ => fun
  | [d] => { results := [.lit (.bool false)], args := [d] }
  | _ => none }
def FnExactStripMACsWrongFalsely : Prop := fnExactStripMACsRow.holds Try.pinned (OpenSpec.ofChange fnExactStripMACsWrong)

/-- 'laws.FnExactSegmentASes': WHATEVER THE INPUT: true; the input reads as it did. -/
def fnExactSegmentASesSpec : ChangeSpec := { name := "fnExactSegmentASes", fn := fun _ => fun
  | [d] => { results := [.lit (.bool true)], args := [d] }
  | _ => none }
def fnExactSegmentASesRow : OpenClaim := { program := "ytbinljboomkkdaa", sum := "7eec8793c44ed650978ca81d2adf79c65dda0136f9e27f70410039154884f186", func := "loop.example/g00505/laws.FnExactSegmentASes", spec := "fnExactSegmentASes", apart := false }
def FnExactSegmentASesSaid : Prop := fnExactSegmentASesRow.holds Try.pinned (OpenSpec.ofChange fnExactSegmentASesSpec)

/-- ITS FALSE NEIGHBOUR: 'it returns false'. Refute it at one input. -/
def fnExactSegmentASesWrong : ChangeSpec := { name := "fnExactSegmentASes", fn := fun _ => fun
  | [d] => { results := [.lit (.bool false)], args := [d] }
  | _ => none }
def FnExactSegmentASesWrongFalsely : Prop := fnExactSegmentASesRow.holds Try.pinned (OpenSpec.ofChange fnExactSegmentASesWrong)

/-- 'laws.FnExactSplice': WHATEVER THE INPUT: true; the input reads as it did. -/
def fnExactSpliceSpec : ChangeSpec := { name := "fnExactSplice", fn := fun _ => fun
  | [d1, d2, d3, d4] => { results := [.lit (.bool true)], args := [d1, d2, d3, d4] }
  | _ => none }
def fnExactSpliceRow : OpenClaim := { program := "ytbinljboomkkdaa", sum := "7eec8793c44ed650978ca81d2adf79c65dda0136f9e27f70410039154884f186", func := "loop.example/g00505/laws.FnExactSplice", spec := "fnExactSplice", apart := false }
def FnExactSpliceSaid : Prop := fnExactSpliceRow.holds Try.pinned (OpenSpec.ofChange fnExactSpliceSpec)

/-- ITS FALSE NEIGHBOUR: 'it returns false'. Refute it at one input. -/
def fnExactSpliceWrong : ChangeSpec := { name := "fnExactSplice", fn := fun _ => fun
  | [d1, d2, d3, d4] => { results := [.lit (.bool false)], args := [d1, d2, d3, d4] }
  | _ => none }
def FnExactSpliceWrongFalsely : Prop := fnExactSpliceRow.holds Try.pinned (OpenSpec.ofChange fnExactSpliceWrong)

/-- 'laws.FnExactPreferred': WHATEVER THE INPUT: true; the input reads as it did. -/
def fnExactPreferredSpec : ChangeSpec := { name := "fnExactPreferred", fn := fun _ => fun
  | [d1, d2] => { results := [.lit (.bool true)], args := [d1, d2] }
  | _ => none }
def fnExactPreferredRow : OpenClaim := { program := "ytbinljboomkkdaa", sum := "7eec8793c44ed650978ca81d2adf79c65dda0136f9e27f70410039154884f186", func := "loop.example/g00505/laws.FnExactPreferred", spec := "fnExactPreferred", apart := false }
def FnExactPreferredSaid : Prop := fnExactPreferredRow.holds Try.pinned (OpenSpec.ofChange fnExactPreferredSpec)

/-- ITS FALSE NEIGHBOUR: 'it returns false'. Refute it at one input. -/
def fnExactPreferredWrong : ChangeSpec := { name := "fnExactPreferred", fn := fun _ => fun
  | [d1, d2] => { results := [.lit (.bool false)], args := [d1, d2] }
  | _ => none }
def FnExactPreferredWrongFalsely : Prop := fnExactPreferredRow.holds Try.pinned (OpenSpec.ofChange fnExactPreferredWrong)

/-- 'laws.FnExactOriginate': WHATEVER THE INPUT: true; the input reads as it did. -/
def fnExactOriginateSpec : ChangeSpec := { name := "fnExactOriginate", fn := fun _ => fun
  | [d1, d2, d3, d4, d5, d6] => { results := [.lit (.bool true)], args := [d1, d2, d3, d4, d5, d6] }
  | _ => none }
def fnExactOriginateRow : OpenClaim := { program := "ytbinljboomkkdaa", sum := "7eec8793c44ed650978ca81d2adf79c65dda0136f9e27f70410039154884f186", func := "loop.example/g00505/laws.FnExactOriginate", spec := "fnExactOriginate", apart := false }
def FnExactOriginateSaid : Prop := fnExactOriginateRow.holds Try.pinned (OpenSpec.ofChange fnExactOriginateSpec)

/-- ITS FALSE NEIGHBOUR: 'it returns false'. Refute it at one input. -/
def fnExactOriginateWrong : ChangeSpec := { name := "fnExactOriginate", fn := fun _ => fun
  | [d1, d2, d3, d4, d5, d6] => { results := [.lit (.bool false)], args := [d1, d2, d3, d4, d5, d6] }
  | _ => none }
def FnExactOriginateWrongFalsely : Prop := fnExactOriginateRow.holds Try.pinned (OpenSpec.ofChange fnExactOriginateWrong)

/-- 'laws.FnHops': WHATEVER THE INPUT: true; the input reads as it did. -/
def fnHopsSpec : ChangeSpec := { name := "fnHops", fn := fun _ => fun
  | [d] => { results := [.lit (.bool true)], args := [d] }
  | _ => none }
def fnHopsRow : OpenClaim := { program := "ytbinljboomkkdaa", sum := "7eec8793c44ed650978ca81d2adf79c65dda0136f9e27f70410039154884f186", func := "loop.example/g00505/laws.FnHops", spec := "fnHops", apart := false }
def FnHopsSaid : Prop := fnHopsRow.holds Try.pinned (OpenSpec.ofChange fnHopsSpec)

/-- ITS FALSE NEIGHBOUR: 'it returns false'. Refute it at one input. -/
def fnHopsWrong : ChangeSpec := { name := "fnHops", fn := fun _ => fun
  | [d] => { results := [.lit (.bool false)], args := [d] }
  | _ => none }
def FnHopsWrongFalsely : Prop := fnHopsRow.holds Try.pinned (OpenSpec.ofChange fnHopsWrong)

/-- 'laws.FnShapes': WHATEVER THE INPUT: true; the input reads as it did. -/
def fnShapesSpec : ChangeSpec := { name := "fnShapes", fn := fun _ => fun
  | [d] => { results := [.lit (.bool true)], args := [d] }
  | _ => none }
def fnShapesRow : OpenClaim := { program := "ytbinljboomkkdaa", sum := "7eec8793c44ed650978ca81d2adf79c65dda0136f9e27f70410039154884f186", func := "loop.example/g00505/laws.FnShapes", spec := "fnShapes", apart := false }
def FnShapesSaid : Prop := fnShapesRow.holds Try.pinned (OpenSpec.ofChange fnShapesSpec)

/-- ITS FALSE NEIGHBOUR: 'it returns false'. Refute it at one input. -/
def fnShapesWrong : ChangeSpec := { name := "fnShapes", fn := fun _ => fun
  | [d] => { results := [.lit (.bool false)], args := [d] }
  | _ => none }
def FnShapesWrongFalsely : Prop := fnShapesRow.holds Try.pinned (OpenSpec.ofChange fnShapesWrong)

/-- 'laws.FnBegins': WHATEVER THE INPUT: true; the input reads as it did. -/
def fnBeginsSpec : ChangeSpec := { name := "fnBegins", fn := fun _ => fun
  | [d] => { results := [.lit (.bool true)], args := [d] }
  | _ => none }
def fnBeginsRow : OpenClaim := { program := "ytbinljboomkkdaa", sum := "7eec8793c44ed650978ca81d2adf79c65dda0136f9e27f70410039154884f186", func := "loop.example/g00505/laws.FnBegins", spec := "fnBegins", apart := false }
def FnBeginsSaid : Prop := fnBeginsRow.holds Try.pinned (OpenSpec.ofChange fnBeginsSpec)

/-- ITS FALSE NEIGHBOUR: 'it returns false'. Refute it at one input. -/
def fnBeginsWrong : ChangeSpec := { name := "fnBegins", fn := fun _ => fun
  | [d] => { results := [.lit (.bool false)], args := [d] }
  | _ => none }
def FnBeginsWrongFalsely : Prop := fnBeginsRow.holds Try.pinned (OpenSpec.ofChange fnBeginsWrong)

/-- 'laws.FnPolicies': WHATEVER THE INPUT: true; the input reads as it did. -/
def fnPoliciesSpec : ChangeSpec := { name := "fnPolicies", fn := fun _ => fun
  | [d] => { results := [.lit (.bool true)], args := [d] }
  | _ => none }
def fnPoliciesRow : OpenClaim := { program := "ytbinljboomkkdaa", sum := "7eec8793c44ed650978ca81d2adf79c65dda0136f9e27f70410039154884f186", func := "loop.example/g00505/laws.FnPolicies", spec := "fnPolicies", apart := false }
def FnPoliciesSaid : Prop := fnPoliciesRow.holds Try.pinned (OpenSpec.ofChange fnPoliciesSpec)

/-- ITS FALSE NEIGHBOUR: 'it returns false'. Refute it at one input. -/
def fnPoliciesWrong : ChangeSpec := { name := "fnPolicies", fn := fun _ => fun
  | [d] => { results := [.lit (.bool false)], args := [d] }
  | _ => none }
def FnPoliciesWrongFalsely : Prop := fnPoliciesRow.holds Try.pinned (OpenSpec.ofChange fnPoliciesWrong)

/- THE SECOND FORM. 'bulk': how many values and letters a reading holds, each counted each time it is reached (what is shared counts as often as it is met; a slice's spare places count too). A statement '..UptoSaid' is the law's where the arguments, and the package variables that the reading takes, are together of bulk at most 1048576: NARROWER than '..Said'. Prove '..Said' where nothing that the law and all that it calls make is longer than what came in: it says more and counts as full. Else prove '..UptoSaid'. A law counts once. -/
mutual
def uptoBulk {H : Type} : DataW H → Nat
  | .lit (.string bytes) => bytes.length + 1
  | .lit _ => 1
  | .nil => 1
  | .ptr d => uptoBulk d + 1
  | .slice elems spare => uptoBulkAll elems + uptoBulkAll spare + 1
  | .agg parts => uptoBulkAll parts + 1
  | .iface _ d => uptoBulk d + 1
  | .map entries => uptoBulkEntries entries + 1
  | .held _ => 1
def uptoBulkAll {H : Type} : List (DataW H) → Nat
  | [] => 0
  | d :: r => uptoBulk d + uptoBulkAll r
def uptoBulkEntries {H : Type} : List (Lit × DataW H) → Nat
  | [] => 0
  | x :: r => uptoBulkEntry x + uptoBulkEntries r
def uptoBulkEntry {H : Type} : Lit × DataW H → Nat
  | (.string bytes, d) => bytes.length + uptoBulk d + 1
  | (_, d) => uptoBulk d + 1
 end
def uptoSmall : (H : Type) → List (DataW H) → Bool := fun _ ds => decide (uptoBulkAll ds ≤ 1048576)
def OpenSpec.upto (s : _root_.Go.ChangeSpec) : _root_.Go.OpenSpec := { _root_.Go.OpenSpec.ofChange s with cond := some uptoSmall }

/-- 'laws.FnExactAppendHop', WHERE WHAT IT READS IS OF BULK AT MOST 1048576: true; the input reads as it did. -/
def fnExactAppendHopUptoRow : OpenClaim := { program := "ytbinljboomkkdaa", sum := "7eec8793c44ed650978ca81d2adf79c65dda0136f9e27f70410039154884f186", func := "loop.example/g00505/laws.FnExactAppendHop", spec := "fnExactAppendHop", apart := false, narrowed := true }
def FnExactAppendHopUptoSaid : Prop := fnExactAppendHopUptoRow.holds Try.pinned (OpenSpec.upto fnExactAppendHopSpec)

/-- 'laws.FnExactReadHop', WHERE WHAT IT READS IS OF BULK AT MOST 1048576: true; the input reads as it did. -/
def fnExactReadHopUptoRow : OpenClaim := { program := "ytbinljboomkkdaa", sum := "7eec8793c44ed650978ca81d2adf79c65dda0136f9e27f70410039154884f186", func := "loop.example/g00505/laws.FnExactReadHop", spec := "fnExactReadHop", apart := false, narrowed := true }
def FnExactReadHopUptoSaid : Prop := fnExactReadHopUptoRow.holds Try.pinned (OpenSpec.upto fnExactReadHopSpec)

/-- 'laws.FnExactStripMACs', WHERE WHAT IT READS IS OF BULK AT MOST 1048576: true; the input reads as it did. -/
def fnExactStripMACsUptoRow : OpenClaim := { program := "ytbinljboomkkdaa", sum := "7eec8793c44ed650978ca81d2adf79c65dda0136f9e27f70410039154884f186", func := "loop.example/g00505/laws.FnExactStripMACs", spec := "fnExactStripMACs", apart := false, narrowed := true }
def FnExactStripMACsUptoSaid : Prop := fnExactStripMACsUptoRow.holds Try.pinned (OpenSpec.upto fnExactStripMACsSpec)

/-- 'laws.FnExactSegmentASes', WHERE WHAT IT READS IS OF BULK AT MOST 1048576: true; the input reads as it did. -/
def fnExactSegmentASesUptoRow : OpenClaim := { program := "ytbinljboomkkdaa", sum := "7eec8793c44ed650978ca81d2adf79c65dda0136f9e27f70410039154884f186", func := "loop.example/g00505/laws.FnExactSegmentASes", spec := "fnExactSegmentASes", apart := false, narrowed := true }
def FnExactSegmentASesUptoSaid : Prop := fnExactSegmentASesUptoRow.holds Try.pinned (OpenSpec.upto fnExactSegmentASesSpec)

/-- 'laws.FnExactSplice', WHERE WHAT IT READS IS OF BULK AT MOST 1048576: true; the input reads as it did. -/
def fnExactSpliceUptoRow : OpenClaim := { program := "ytbinljboomkkdaa", sum := "7eec8793c44ed650978ca81d2adf79c65dda0136f9e27f70410039154884f186", func := "loop.example/g00505/laws.FnExactSplice", spec := "fnExactSplice", apart := false, narrowed := true }
def FnExactSpliceUptoSaid : Prop := fnExactSpliceUptoRow.holds Try.pinned (OpenSpec.upto fnExactSpliceSpec)

/-- 'laws.FnExactPreferred', WHERE WHAT IT READS IS OF BULK AT MOST 1048576: true; the input reads as it did. -/
def fnExactPreferredUptoRow : OpenClaim := { program := "ytbinljboomkkdaa", sum := "7eec8793c44ed650978ca81d2adf79c65dda0136f9e27f70410039154884f186", func := "loop.example/g00505/laws.FnExactPreferred", spec := "fnExactPreferred", apart := false, narrowed := true }
def FnExactPreferredUptoSaid : Prop := fnExactPreferredUptoRow.holds Try.pinned (OpenSpec.upto fnExactPreferredSpec)

/-- 'laws.FnExactOriginate', WHERE WHAT IT READS IS OF BULK AT MOST 1048576: true; the input reads as it did. -/
def fnExactOriginateUptoRow : OpenClaim := { program := "ytbinljboomkkdaa", sum := "7eec8793c44ed650978ca81d2adf79c65dda0136f9e27f70410039154884f186", func := "loop.example/g00505/laws.FnExactOriginate", spec := "fnExactOriginate", apart := false, narrowed := true }
def FnExactOriginateUptoSaid : Prop := fnExactOriginateUptoRow.holds Try.pinned (OpenSpec.upto fnExactOriginateSpec)

/-- 'laws.FnHops', WHERE WHAT IT READS IS OF BULK AT MOST 1048576: true; the input reads as it did. -/
def fnHopsUptoRow : OpenClaim := { program := "ytbinljboomkkdaa", sum := "7eec8793c44ed650978ca81d2adf79c65dda0136f9e27f70410039154884f186", func := "loop.example/g00505/laws.FnHops", spec := "fnHops", apart := false, narrowed := true }
def FnHopsUptoSaid : Prop := fnHopsUptoRow.holds Try.pinned (OpenSpec.upto fnHopsSpec)

/-- 'laws.FnShapes', WHERE WHAT IT READS IS OF BULK AT MOST 1048576: true; the input reads as it did. -/
def fnShapesUptoRow : OpenClaim := { program := "ytbinljboomkkdaa", sum := "7eec8793c44ed650978ca81d2adf79c65dda0136f9e27f70410039154884f186", func := "loop.example/g00505/laws.FnShapes", spec := "fnShapes", apart := false, narrowed := true }
def FnShapesUptoSaid : Prop := fnShapesUptoRow.holds Try.pinned (OpenSpec.upto fnShapesSpec)

/-- 'laws.FnBegins', WHERE WHAT IT READS IS OF BULK AT MOST 1048576: true; the input reads as it did. -/
def fnBeginsUptoRow : OpenClaim := { program := "ytbinljboomkkdaa", sum := "7eec8793c44ed650978ca81d2adf79c65dda0136f9e27f70410039154884f186", func := "loop.example/g00505/laws.FnBegins", spec := "fnBegins", apart := false, narrowed := true }
def FnBeginsUptoSaid : Prop := fnBeginsUptoRow.holds Try.pinned (OpenSpec.upto fnBeginsSpec)

/-- 'laws.FnPolicies', WHERE WHAT IT READS IS OF BULK AT MOST 1048576: true; the input reads as it did. -/
def fnPoliciesUptoRow : OpenClaim := { program := "ytbinljboomkkdaa", sum := "7eec8793c44ed650978ca81d2adf79c65dda0136f9e27f70410039154884f186", func := "loop.example/g00505/laws.FnPolicies", spec := "fnPolicies", apart := false, narrowed := true }
def FnPoliciesUptoSaid : Prop := fnPoliciesUptoRow.holds Try.pinned (OpenSpec.upto fnPoliciesSpec)

end Rows
end Go.Proofs.Ytbinljboomkkdaa
