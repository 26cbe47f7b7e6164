/-
  No cell of these rows narrows 'for every input' (looked for: loops, veiled, ifaces, maps, wideKeys, modest, calm, conditions, laid).
  DERIVED. THE GIVEN ROWS OF THIS SEAT. 12 by the template 'for every input the law returns true; each argument reads behind the call as it read before'; 0 by the template 'total and deterministic' (their statements: YtfpjohbnhmbpgaaTotals.lean).
  GIVEN WITH THE SEED: the statements are not yours to turn. If you find one false, say at which input.
  Laid BY PROGRAM, IN A SANDBOX (cutbox-rows.mjs): the forced cells as the released guide's own fill.sh prints them over the translation 250f48600af99d49… (all of the seat's roots in one cut). By AI agents, Wed Nov 11 2026. No macro, syntax, notation, axiom, sorry.
-/
import Derived.Test.YtfpjohbnhmbpgaaChecked
import GoSem.Claim
import GoSem.ClaimJoined
import GoSem.ClaimMapViews
import Derived.JoinedTies
import Derived.KernelRfl
namespace Go.Proofs.Ytfpjohbnhmbpgaa
/- THE CELL 'sum', in the pinned program and in every row, IS THE sha256 OF THE DUMP (.gsa) THAT YtfpjohbnhmbpgaaProg.lean LOADS. Nothing in Lean hashes anything: it is a label: what it is worth is what the hold of that sum in a sandbox is worth. -/
noncomputable def Try.pinned : Pinned := { name := "ytfpjohbnhmbpgaa", sum := "250f48600af99d49429de41ffd9874677505b7984782ce7aaf4c446ab853b191", checked := Try.checked }
namespace Rows
def none {H : Type} : Left H := { results := [], args := [] }

/-- 'laws.FnExactHopMAC': WHATEVER THE INPUT: true; the input reads as it did. -/
def fnExactHopMACSpec : ChangeSpec := { name := "fnExactHopMAC", fn := fun _ => fun
  | [d1, d2, d3, d4] => { results := [.lit (.bool true)], args := [d1, d2, d3, d4] }
  | _ => none }
def fnExactHopMACRow : OpenClaim := { program := "ytfpjohbnhmbpgaa", sum := "250f48600af99d49429de41ffd9874677505b7984782ce7aaf4c446ab853b191", func := "loop.example/g00505/laws.FnExactHopMAC", spec := "fnExactHopMAC", apart := false }
def FnExactHopMACSaid : Prop := fnExactHopMACRow.holds Try.pinned (OpenSpec.ofChange fnExactHopMACSpec)

/-- ITS FALSE NEIGHBOUR: 'it returns false'. Refute it at one input. -/
def fnExactHopMACWrong : ChangeSpec := { name := "fnExactHopMAC", fn := fun _ => fun
  | [d1, d2, d3, d4] => { results := [.lit (.bool false)], args := [d1, d2, d3, d4] }
  | _ => none }
def FnExactHopMACWrongFalsely : Prop := fnExactHopMACRow.holds Try.pinned (OpenSpec.ofChange fnExactHopMACWrong)

/-- 'laws.FnExactPolicyFor': WHATEVER THE INPUT: true; the input reads as it did. -/
def fnExactPolicyForSpec : ChangeSpec := { name := "fnExactPolicyFor", fn := fun _ => fun
  | [d1, d2] => { results := [.lit (.bool true)], args := [d1, d2] }
  | _ => none }
def fnExactPolicyForRow : OpenClaim := { program := "ytfpjohbnhmbpgaa", sum := "250f48600af99d49429de41ffd9874677505b7984782ce7aaf4c446ab853b191", func := "loop.example/g00505/laws.FnExactPolicyFor", spec := "fnExactPolicyFor", apart := false }
def FnExactPolicyForSaid : Prop := fnExactPolicyForRow.holds Try.pinned (OpenSpec.ofChange fnExactPolicyForSpec)

/-- ITS FALSE NEIGHBOUR: 'it returns false'. Refute it at one input. -/
def fnExactPolicyForWrong : ChangeSpec := { name := "fnExactPolicyFor", fn := fun _ => fun
  | [d1, d2] => { results := [.lit (.bool false)], args := [d1, d2] }
  | _ => none }
def FnExactPolicyForWrongFalsely : Prop := fnExactPolicyForRow.holds Try.pinned (OpenSpec.ofChange fnExactPolicyForWrong)

/-- 'laws.FnExactAuthenticateHop': WHATEVER THE INPUT: true; the input reads as it did. -/
def fnExactAuthenticateHopSpec : ChangeSpec := { name := "fnExactAuthenticateHop", fn := fun _ => fun
  | [d1, d2, d3, d4] => { results := [.lit (.bool true)], args := [d1, d2, d3, d4] }
  | _ => none }
def fnExactAuthenticateHopRow : OpenClaim := { program := "ytfpjohbnhmbpgaa", sum := "250f48600af99d49429de41ffd9874677505b7984782ce7aaf4c446ab853b191", func := "loop.example/g00505/laws.FnExactAuthenticateHop", spec := "fnExactAuthenticateHop", apart := false }
def FnExactAuthenticateHopSaid : Prop := fnExactAuthenticateHopRow.holds Try.pinned (OpenSpec.ofChange fnExactAuthenticateHopSpec)

/-- ITS FALSE NEIGHBOUR: 'it returns false'. Refute it at one input. -/
def fnExactAuthenticateHopWrong : ChangeSpec := { name := "fnExactAuthenticateHop", fn := fun _ => fun
  | [d1, d2, d3, d4] => { results := [.lit (.bool false)], args := [d1, d2, d3, d4] }
  | _ => none }
def FnExactAuthenticateHopWrongFalsely : Prop := fnExactAuthenticateHopRow.holds Try.pinned (OpenSpec.ofChange fnExactAuthenticateHopWrong)

/-- 'laws.FnExactIsTerminated': WHATEVER THE INPUT: true; the input reads as it did. -/
def fnExactIsTerminatedSpec : ChangeSpec := { name := "fnExactIsTerminated", fn := fun _ => fun
  | [d] => { results := [.lit (.bool true)], args := [d] }
  | _ => none }
def fnExactIsTerminatedRow : OpenClaim := { program := "ytfpjohbnhmbpgaa", sum := "250f48600af99d49429de41ffd9874677505b7984782ce7aaf4c446ab853b191", func := "loop.example/g00505/laws.FnExactIsTerminated", spec := "fnExactIsTerminated", apart := false }
def FnExactIsTerminatedSaid : Prop := fnExactIsTerminatedRow.holds Try.pinned (OpenSpec.ofChange fnExactIsTerminatedSpec)

/-- ITS FALSE NEIGHBOUR: 'it returns false'. Refute it at one input. -/
def fnExactIsTerminatedWrong : ChangeSpec := { name := "fnExactIsTerminated", fn := fun _ => fun
  | [d] => { results := [.lit (.bool false)], args := [d] }
  | _ => none }
def FnExactIsTerminatedWrongFalsely : Prop := fnExactIsTerminatedRow.holds Try.pinned (OpenSpec.ofChange fnExactIsTerminatedWrong)

/-- 'laws.FnExactFirstAS': WHATEVER THE INPUT: true; the input reads as it did. -/
def fnExactFirstASSpec : ChangeSpec := { name := "fnExactFirstAS", fn := fun _ => fun
  | [d] => { results := [.lit (.bool true)], args := [d] }
  | _ => none }
def fnExactFirstASRow : OpenClaim := { program := "ytfpjohbnhmbpgaa", sum := "250f48600af99d49429de41ffd9874677505b7984782ce7aaf4c446ab853b191", func := "loop.example/g00505/laws.FnExactFirstAS", spec := "fnExactFirstAS", apart := false }
def FnExactFirstASSaid : Prop := fnExactFirstASRow.holds Try.pinned (OpenSpec.ofChange fnExactFirstASSpec)

/-- ITS FALSE NEIGHBOUR: 'it returns false'. Refute it at one input. -/
def fnExactFirstASWrong : ChangeSpec := { name := "fnExactFirstAS", fn := fun _ => fun
  | [d] => { results := [.lit (.bool false)], args := [d] }
  | _ => none }
def FnExactFirstASWrongFalsely : Prop := fnExactFirstASRow.holds Try.pinned (OpenSpec.ofChange fnExactFirstASWrong)

/-- 'laws.FnExactLastAS': WHATEVER THE INPUT: true; the input reads as it did. -/
def fnExactLastASSpec : ChangeSpec := { name := "fnExactLastAS", fn := fun _ => fun
  | [d] => { results := [.lit (.bool true)], args := [d] }
  | _ => none }
def fnExactLastASRow : OpenClaim := { program := "ytfpjohbnhmbpgaa", sum := "250f48600af99d49429de41ffd9874677505b7984782ce7aaf4c446ab853b191", func := "loop.example/g00505/laws.FnExactLastAS", spec := "fnExactLastAS", apart := false }
def FnExactLastASSaid : Prop := fnExactLastASRow.holds Try.pinned (OpenSpec.ofChange fnExactLastASSpec)

/-- ITS FALSE NEIGHBOUR: 'it returns false'. Refute it at one input. -/
def fnExactLastASWrong : ChangeSpec := { name := "fnExactLastAS", fn := fun _ => fun
  | [d] => { results := [.lit (.bool false)], args := [d] }
  | _ => none }
def FnExactLastASWrongFalsely : Prop := fnExactLastASRow.holds Try.pinned (OpenSpec.ofChange fnExactLastASWrong)

/-- 'laws.FnExactFormatPolicy': WHATEVER THE INPUT: true; the input reads as it did. -/
def fnExactFormatPolicySpec : ChangeSpec := { name := "fnExactFormatPolicy", fn := fun _ => fun
  | [d] => { results := [.lit (.bool true)], args := [d] }
  | _ => none }
def fnExactFormatPolicyRow : OpenClaim := { program := "ytfpjohbnhmbpgaa", sum := "250f48600af99d49429de41ffd9874677505b7984782ce7aaf4c446ab853b191", func := "loop.example/g00505/laws.FnExactFormatPolicy", spec := "fnExactFormatPolicy", apart := false }
def FnExactFormatPolicySaid : Prop := fnExactFormatPolicyRow.holds Try.pinned (OpenSpec.ofChange fnExactFormatPolicySpec)

/-- ITS FALSE NEIGHBOUR: 'it returns false'. Refute it at one input. -/
def fnExactFormatPolicyWrong : ChangeSpec := { name := "fnExactFormatPolicy", fn := fun _ => fun
  | [d] => { results := [.lit (.bool false)], args := [d] }
  | _ => none }
def FnExactFormatPolicyWrongFalsely : Prop := fnExactFormatPolicyRow.holds Try.pinned (OpenSpec.ofChange fnExactFormatPolicyWrong)

/-- 'laws.FnExactAppendHop': WHATEVER THE INPUT: true; the input reads as it did. -/
def fnExactAppendHopSpec : ChangeSpec := { name := "fnExactAppendHop", fn := fun _ => fun
  | [d1, d2] => { results := [.lit (.bool true)], args := [d1, d2] }
  | _ => none }
def fnExactAppendHopRow : OpenClaim := { program := "ytfpjohbnhmbpgaa", sum := "250f48600af99d49429de41ffd9874677505b7984782ce7aaf4c446ab853b191", func := "loop.example/g00505/laws.FnExactAppendHop", spec := "fnExactAppendHop", apart := false }
def FnExactAppendHopSaid : Prop := fnExactAppendHopRow.holds Try.pinned (OpenSpec.ofChange fnExactAppendHopSpec)

/-- ITS FALSE NEIGHBOUR: 'it returns false'. Refute it at one input. -/
def fnExactAppendHopWrong : ChangeSpec := { name := "fnExactAppendHop", fn := fun _ => fun
  | [d1, d2] => { results := [.lit (.bool false)], args := [d1, d2] }
  | _ => none }
def FnExactAppendHopWrongFalsely : Prop := fnExactAppendHopRow.holds Try.pinned (OpenSpec.ofChange fnExactAppendHopWrong)

/-- 'laws.FnExactSegmentExpiry': WHATEVER THE INPUT: true; the input reads as it did. -/
def fnExactSegmentExpirySpec : ChangeSpec := { name := "fnExactSegmentExpiry", fn := fun _ => fun
  | [d] => { results := [.lit (.bool true)], args := [d] }
  | _ => none }
def fnExactSegmentExpiryRow : OpenClaim := { program := "ytfpjohbnhmbpgaa", sum := "250f48600af99d49429de41ffd9874677505b7984782ce7aaf4c446ab853b191", func := "loop.example/g00505/laws.FnExactSegmentExpiry", spec := "fnExactSegmentExpiry", apart := false }
def FnExactSegmentExpirySaid : Prop := fnExactSegmentExpiryRow.holds Try.pinned (OpenSpec.ofChange fnExactSegmentExpirySpec)

/-- ITS FALSE NEIGHBOUR: 'it returns false'. Refute it at one input. -/
def fnExactSegmentExpiryWrong : ChangeSpec := { name := "fnExactSegmentExpiry", fn := fun _ => fun
  | [d] => { results := [.lit (.bool false)], args := [d] }
  | _ => none }
def FnExactSegmentExpiryWrongFalsely : Prop := fnExactSegmentExpiryRow.holds Try.pinned (OpenSpec.ofChange fnExactSegmentExpiryWrong)

/-- 'laws.FnExactEqualSegments': WHATEVER THE INPUT: true; the input reads as it did. -/
def fnExactEqualSegmentsSpec : ChangeSpec := { name := "fnExactEqualSegments", fn := fun _ => fun
  | [d1, d2] => { results := [.lit (.bool true)], args := [d1, d2] }
  | _ => none }
def fnExactEqualSegmentsRow : OpenClaim := { program := "ytfpjohbnhmbpgaa", sum := "250f48600af99d49429de41ffd9874677505b7984782ce7aaf4c446ab853b191", func := "loop.example/g00505/laws.FnExactEqualSegments", spec := "fnExactEqualSegments", apart := false }
def FnExactEqualSegmentsSaid : Prop := fnExactEqualSegmentsRow.holds Try.pinned (OpenSpec.ofChange fnExactEqualSegmentsSpec)

/-- ITS FALSE NEIGHBOUR: 'it returns false'. Refute it at one input. -/
def fnExactEqualSegmentsWrong : ChangeSpec := { name := "fnExactEqualSegments", fn := fun _ => fun
  | [d1, d2] => { results := [.lit (.bool false)], args := [d1, d2] }
  | _ => none }
def FnExactEqualSegmentsWrongFalsely : Prop := fnExactEqualSegmentsRow.holds Try.pinned (OpenSpec.ofChange fnExactEqualSegmentsWrong)

/-- 'laws.FnExactEncodable': WHATEVER THE INPUT: true; the input reads as it did. -/
def fnExactEncodableSpec : ChangeSpec := { name := "fnExactEncodable", fn := fun _ => fun
  | [d] => { results := [.lit (.bool true)], args := [d] }
  | _ => none }
def fnExactEncodableRow : OpenClaim := { program := "ytfpjohbnhmbpgaa", sum := "250f48600af99d49429de41ffd9874677505b7984782ce7aaf4c446ab853b191", func := "loop.example/g00505/laws.FnExactEncodable", spec := "fnExactEncodable", apart := false }
def FnExactEncodableSaid : Prop := fnExactEncodableRow.holds Try.pinned (OpenSpec.ofChange fnExactEncodableSpec)

/-- ITS FALSE NEIGHBOUR: 'it returns false'. Refute it at one input. -/
def fnExactEncodableWrong : ChangeSpec := { name := "fnExactEncodable", fn := fun _ => fun
  | [d] => { results := [.lit (.bool false)], args := [d] }
  | _ => none }
def FnExactEncodableWrongFalsely : Prop := fnExactEncodableRow.holds Try.pinned (OpenSpec.ofChange fnExactEncodableWrong)

/-- 'laws.FnExactSegmentID': WHATEVER THE INPUT: true; the input reads as it did. -/
def fnExactSegmentIDSpec : ChangeSpec := { name := "fnExactSegmentID", fn := fun _ => fun
  | [d] => { results := [.lit (.bool true)], args := [d] }
  | _ => none }
def fnExactSegmentIDRow : OpenClaim := { program := "ytfpjohbnhmbpgaa", sum := "250f48600af99d49429de41ffd9874677505b7984782ce7aaf4c446ab853b191", func := "loop.example/g00505/laws.FnExactSegmentID", spec := "fnExactSegmentID", apart := false }
def FnExactSegmentIDSaid : Prop := fnExactSegmentIDRow.holds Try.pinned (OpenSpec.ofChange fnExactSegmentIDSpec)

/-- ITS FALSE NEIGHBOUR: 'it returns false'. Refute it at one input. -/
def fnExactSegmentIDWrong : ChangeSpec := { name := "fnExactSegmentID", fn := fun _ => fun
  | [d] => { results := [.lit (.bool false)], args := [d] }
  | _ => none }
def FnExactSegmentIDWrongFalsely : Prop := fnExactSegmentIDRow.holds Try.pinned (OpenSpec.ofChange fnExactSegmentIDWrong)

/- THE SECOND FORM. 'bulk': how many values and letters a reading holds, each counted each time it is reached (what is shared counts as often as it is met; a slice's spare places count too). A statement '..UptoSaid' is the law's where the arguments, and the package variables that the reading takes, are together of bulk at most 1048576: NARROWER than '..Said'. Prove '..Said' where nothing that the law and all that it calls make is longer than what came in: it says more and counts as full. Else prove '..UptoSaid'. A law counts once. -/
mutual
def uptoBulk {H : Type} : DataW H → Nat
  | .lit (.string bytes) => bytes.length + 1
  | .lit _ => 1
  | .nil => 1
  | .ptr d => uptoBulk d + 1
  | .slice elems spare => uptoBulkAll elems + uptoBulkAll spare + 1
  | .agg parts => uptoBulkAll parts + 1
  | .iface _ d => uptoBulk d + 1
  | .map entries => uptoBulkEntries entries + 1
  | .held _ => 1
def uptoBulkAll {H : Type} : List (DataW H) → Nat
  | [] => 0
  | d :: r => uptoBulk d + uptoBulkAll r
def uptoBulkEntries {H : Type} : List (Lit × DataW H) → Nat
  | [] => 0
  | x :: r => uptoBulkEntry x + uptoBulkEntries r
def uptoBulkEntry {H : Type} : Lit × DataW H → Nat
  | (.string bytes, d) => bytes.length + uptoBulk d + 1
  | (_, d) => uptoBulk d + 1
 end
def uptoSmall : (H : Type) → List (DataW H) → Bool := fun _ ds => decide (uptoBulkAll ds ≤ 1048576)
def OpenSpec.upto (s : _root_.Go.ChangeSpec) : _root_.Go.OpenSpec := { _root_.Go.OpenSpec.ofChange s with cond := some uptoSmall }

/-- 'laws.FnExactHopMAC', WHERE WHAT IT READS IS OF BULK AT MOST 1048576: true; the input reads as it did. -/
def fnExactHopMACUptoRow : OpenClaim := { program := "ytfpjohbnhmbpgaa", sum := "250f48600af99d49429de41ffd9874677505b7984782ce7aaf4c446ab853b191", func := "loop.example/g00505/laws.FnExactHopMAC", spec := "fnExactHopMAC", apart := false, narrowed := true }
def FnExactHopMACUptoSaid : Prop := fnExactHopMACUptoRow.holds Try.pinned (OpenSpec.upto fnExactHopMACSpec)

/-- 'laws.FnExactPolicyFor', WHERE WHAT IT READS IS OF BULK AT MOST 1048576: true; the input reads as it did. -/
def fnExactPolicyForUptoRow : OpenClaim := { program := "ytfpjohbnhmbpgaa", sum := "250f48600af99d49429de41ffd9874677505b7984782ce7aaf4c446ab853b191", func := "loop.example/g00505/laws.FnExactPolicyFor", spec := "fnExactPolicyFor", apart := false, narrowed := true }
def FnExactPolicyForUptoSaid : Prop := fnExactPolicyForUptoRow.holds Try.pinned (OpenSpec.upto fnExactPolicyForSpec)

/-- 'laws.FnExactAuthenticateHop', WHERE WHAT IT READS IS OF BULK AT MOST 1048576: true; the input reads as it did. -/
def fnExactAuthenticateHopUptoRow : OpenClaim := { program := "ytfpjohbnhmbpgaa", sum := "250f48600af99d49429de41ffd9874677505b7984782ce7aaf4c446ab853b191", func := "loop.example/g00505/laws.FnExactAuthenticateHop", spec := "fnExactAuthenticateHop", apart := false, narrowed := true }
def FnExactAuthenticateHopUptoSaid : Prop := fnExactAuthenticateHopUptoRow.holds Try.pinned (OpenSpec.upto fnExactAuthenticateHopSpec)

/-- 'laws.FnExactIsTerminated', WHERE WHAT IT READS IS OF BULK AT MOST 1048576: true; the input reads as it did. -/
def fnExactIsTerminatedUptoRow : OpenClaim := { program := "ytfpjohbnhmbpgaa", sum := "250f48600af99d49429de41ffd9874677505b7984782ce7aaf4c446ab853b191", func := "loop.example/g00505/laws.FnExactIsTerminated", spec := "fnExactIsTerminated", apart := false, narrowed := true }
def FnExactIsTerminatedUptoSaid : Prop := fnExactIsTerminatedUptoRow.holds Try.pinned (OpenSpec.upto fnExactIsTerminatedSpec)

/-- 'laws.FnExactFirstAS', WHERE WHAT IT READS IS OF BULK AT MOST 1048576: true; the input reads as it did. -/
def fnExactFirstASUptoRow : OpenClaim := { program := "ytfpjohbnhmbpgaa", sum := "250f48600af99d49429de41ffd9874677505b7984782ce7aaf4c446ab853b191", func := "loop.example/g00505/laws.FnExactFirstAS", spec := "fnExactFirstAS", apart := false, narrowed := true }
def FnExactFirstASUptoSaid : Prop := fnExactFirstASUptoRow.holds Try.pinned (OpenSpec.upto fnExactFirstASSpec)

/-- 'laws.FnExactLastAS', WHERE WHAT IT READS IS OF BULK AT MOST 1048576: true; the input reads as it did. -/
def fnExactLastASUptoRow : OpenClaim := { program := "ytfpjohbnhmbpgaa", sum := "250f48600af99d49429de41ffd9874677505b7984782ce7aaf4c446ab853b191", func := "loop.example/g00505/laws.FnExactLastAS", spec := "fnExactLastAS", apart := false, narrowed := true }
def FnExactLastASUptoSaid : Prop := fnExactLastASUptoRow.holds Try.pinned (OpenSpec.upto fnExactLastASSpec)

/-- 'laws.FnExactFormatPolicy', WHERE WHAT IT READS IS OF BULK AT MOST 1048576: true; the input reads as it did. -/
def fnExactFormatPolicyUptoRow : OpenClaim := { program := "ytfpjohbnhmbpgaa", sum := "250f48600af99d49429de41ffd9874677505b7984782ce7aaf4c446ab853b191", func := "loop.example/g00505/laws.FnExactFormatPolicy", spec := "fnExactFormatPolicy", apart := false, narrowed := true }
def FnExactFormatPolicyUptoSaid : Prop := fnExactFormatPolicyUptoRow.holds Try.pinned (OpenSpec.upto fnExactFormatPolicySpec)

/-- 'laws.FnExactAppendHop', WHERE WHAT IT READS IS OF BULK AT MOST 1048576: true; the input reads as it did. -/
def fnExactAppendHopUptoRow : OpenClaim := { program := "ytfpjohbnhmbpgaa", sum := "250f48600af99d49429de41ffd9874677505b7984782ce7aaf4c446ab853b191", func := "loop.example/g00505/laws.FnExactAppendHop", spec := "fnExactAppendHop", apart := false, narrowed := true }
def FnExactAppendHopUptoSaid : Prop := fnExactAppendHopUptoRow.holds Try.pinned (OpenSpec.upto fnExactAppendHopSpec)

/-- 'laws.FnExactSegmentExpiry', WHERE WHAT IT READS IS OF BULK AT MOST 1048576: true; the input reads as it did. -/
def fnExactSegmentExpiryUptoRow : OpenClaim := { program := "ytfpjohbnhmbpgaa", sum := "250f48600af99d49429de41ffd9874677505b7984782ce7aaf4c446ab853b191", func := "loop.example/g00505/laws.FnExactSegmentExpiry", spec := "fnExactSegmentExpiry", apart := false, narrowed := true }
def FnExactSegmentExpiryUptoSaid : Prop := fnExactSegmentExpiryUptoRow.holds Try.pinned (OpenSpec.upto fnExactSegmentExpirySpec)

/-- 'laws.FnExactEqualSegments', WHERE WHAT IT READS IS OF BULK AT MOST 1048576: true; the input reads as it did. -/
def fnExactEqualSegmentsUptoRow : OpenClaim := { program := "ytfpjohbnhmbpgaa", sum := "250f48600af99d49429de41ffd9874677505b7984782ce7aaf4c446ab853b191", func := "loop.example/g00505/laws.FnExactEqualSegments", spec := "fnExactEqualSegments", apart := false, narrowed := true }
def FnExactEqualSegmentsUptoSaid : Prop := fnExactEqualSegmentsUptoRow.holds Try.pinned (OpenSpec.upto fnExactEqualSegmentsSpec)

/-- 'laws.FnExactEncodable', WHERE WHAT IT READS IS OF BULK AT MOST 1048576: true; the input reads as it did. -/
def fnExactEncodableUptoRow : OpenClaim := { program := "ytfpjohbnhmbpgaa", sum := "250f48600af99d49429de41ffd9874677505b7984782ce7aaf4c446ab853b191", func := "loop.example/g00505/laws.FnExactEncodable", spec := "fnExactEncodable", apart := false, narrowed := true }
def FnExactEncodableUptoSaid : Prop := fnExactEncodableUptoRow.holds Try.pinned (OpenSpec.upto fnExactEncodableSpec)

/-- 'laws.FnExactSegmentID', WHERE WHAT IT READS IS OF BULK AT MOST 1048576: true; the input reads as it did. -/
def fnExactSegmentIDUptoRow : OpenClaim := { program := "ytfpjohbnhmbpgaa", sum := "250f48600af99d49429de41ffd9874677505b7984782ce7aaf4c446ab853b191", func := "loop.example/g00505/laws.FnExactSegmentID", spec := "fnExactSegmentID", apart := false, narrowed := true }
def FnExactSegmentIDUptoSaid : Prop := fnExactSegmentIDUptoRow.holds Try.pinned (OpenSpec.upto fnExactSegmentIDSpec)

end Rows
end Go.Proofs.Ytfpjohbnhmbpgaa
