/-
  No cell of these rows narrows 'for every input' (looked for: loops, veiled, ifaces, maps, wideKeys, modest, calm, conditions, laid).
  DERIVED. THE GIVEN ROWS OF THIS SEAT. 12 by the template 'for every input the law returns true; each argument reads behind the call as it read before'; 0 by the template 'total and deterministic' (their statements: YtpgkmmfhlkipcaaTotals.lean).
  GIVEN WITH THE SEED: the statements are not yours to turn. If you find one false, say at which input.
  Laid BY PROGRAM, IN A SANDBOX (cutbox-rows.mjs): the forced cells as the released guide's own fill.sh prints them over the translation 07761aae25598f21… (all of the seat's roots in one cut). By AI agents, Wed Nov 11 2026. No macro, syntax, notation, axiom, sorry.
-/
import Derived.Test.YtpgkmmfhlkipcaaChecked
import GoSem.Claim
import GoSem.ClaimJoined
import GoSem.ClaimMapViews
import Derived.JoinedTies
import Derived.KernelRfl
namespace Go.Proofs.Ytpgkmmfhlkipcaa
/- THE CELL 'sum', in the pinned program and in every row, IS THE sha256 OF THE DUMP (.gsa) THAT YtpgkmmfhlkipcaaProg.lean LOADS. Nothing in Lean hashes anything: it is a label: what it is worth is what the hold of that sum in a sandbox is worth. -/
noncomputable def Try.pinned : Pinned := { name := "ytpgkmmfhlkipcaa", sum := "07761aae25598f21f3ec91fd32e22e3da6059ac01cea3c1a1798d51931617430", checked := Try.checked }
namespace Rows
def none {H : Type} : Left H := { results := [], args := [] }

/-- 'laws.FnExactAllows': WHATEVER THE INPUT: true; the input reads as it did. -/
def fnExactAllowsSpec : ChangeSpec := { name := "fnExactAllows", fn := fun _ => fun
  | [d1, d2, d3] => { results := [.lit (.bool true)], args := [d1, d2, d3] }
  | _ => none }
def fnExactAllowsRow : OpenClaim := { program := "ytpgkmmfhlkipcaa", sum := "07761aae25598f21f3ec91fd32e22e3da6059ac01cea3c1a1798d51931617430", func := "loop.example/g00505/laws.FnExactAllows", spec := "fnExactAllows", apart := false }
def FnExactAllowsSaid : Prop := fnExactAllowsRow.holds Try.pinned (OpenSpec.ofChange fnExactAllowsSpec)

/-- ITS FALSE NEIGHBOUR: 'it returns false'. Refute it at one input. -/
def fnExactAllowsWrong : ChangeSpec := { name := "fnExactAllows", fn := fun _ => fun
  | [d1, d2, d3] => { results := [.lit (.bool false)], args := [d1, d2, d3] }
  | _ => none }
def FnExactAllowsWrongFalsely : Prop := fnExactAllowsRow.holds Try.pinned (OpenSpec.ofChange fnExactAllowsWrong)

/-- 'laws.FnExactBetaAt': WHATEVER THE INPUT: true; the input reads as it did. -/
def fnExactBetaAtSpec : ChangeSpec := { name := "fnExactBetaAt", fn := fun _ => fun
  | [d1, d2] => { results := [.lit (.bool true)], args := [d1, d2] }
  | _ => none }
def fnExactBetaAtRow : OpenClaim := { program := "ytpgkmmfhlkipcaa", sum := "07761aae25598f21f3ec91fd32e22e3da6059ac01cea3c1a1798d51931617430", func := "loop.example/g00505/laws.FnExactBetaAt", spec := "fnExactBetaAt", apart := false }
def FnExactBetaAtSaid : Prop := fnExactBetaAtRow.holds Try.pinned (OpenSpec.ofChange fnExactBetaAtSpec)

/-- ITS FALSE NEIGHBOUR: 'it returns false'. Refute it at one input. -/
def fnExactBetaAtWrong : ChangeSpec := { name := "fnExactBetaAt", fn := fun _ => fun
  | [d1, d2] => { results := [.lit (.bool false)], args := [d1, d2] }
  | _ => none }
def FnExactBetaAtWrongFalsely : Prop := fnExactBetaAtRow.holds Try.pinned (OpenSpec.ofChange fnExactBetaAtWrong)

/-- 'laws.FnExactReadHop': WHATEVER THE INPUT: true; the input reads as it did. -/
def fnExactReadHopSpec : ChangeSpec := { name := "fnExactReadHop", fn := fun _ => fun
  | [d1, d2] => { results := [.lit (.bool true)], args := [d1, d2] }
  | _ => none }
def fnExactReadHopRow : OpenClaim := { program := "ytpgkmmfhlkipcaa", sum := "07761aae25598f21f3ec91fd32e22e3da6059ac01cea3c1a1798d51931617430", func := "loop.example/g00505/laws.FnExactReadHop", spec := "fnExactReadHop", apart := false }
def FnExactReadHopSaid : Prop := fnExactReadHopRow.holds Try.pinned (OpenSpec.ofChange fnExactReadHopSpec)

/-- ITS FALSE NEIGHBOUR: 'it returns false'. Refute it at one input. -/
def fnExactReadHopWrong : ChangeSpec := { name := "fnExactReadHop", fn := fun _ => fun
  | [d1, d2] => { results := [.lit (.bool false)], args := [d1, d2] }
  | _ => none }
def FnExactReadHopWrongFalsely : Prop := fnExactReadHopRow.holds Try.pinned (OpenSpec.ofChange fnExactReadHopWrong)

/-- 'laws.FnExactStripMACs': WHATEVER THE INPUT: true; the input reads as it did. -/
def fnExactStripMACsSpec : ChangeSpec := { name := "fnExactStripMACs", fn := fun _ => fun
  | [d] => { results := [.lit (.bool true)], args := [d] }
  | _ => none }
def fnExactStripMACsRow : OpenClaim := { program := "ytpgkmmfhlkipcaa", sum := "07761aae25598f21f3ec91fd32e22e3da6059ac01cea3c1a1798d51931617430", func := "loop.example/g00505/laws.FnExactStripMACs", spec := "fnExactStripMACs", apart := false }
def FnExactStripMACsSaid : Prop := fnExactStripMACsRow.holds Try.pinned (OpenSpec.ofChange fnExactStripMACsSpec)

/-- ITS FALSE NEIGHBOUR: 'it returns false'. Refute it at one input. -/
def fnExactStripMACsWrong : ChangeSpec := { name := "fnExactStripMACs", fn := fun _ => fun
  | [d] => { results := [.lit (.bool false)], args := [d] }
  | _ => none }
def FnExactStripMACsWrongFalsely : Prop := fnExactStripMACsRow.holds Try.pinned (OpenSpec.ofChange fnExactStripMACsWrong)

/-- 'laws.FnExactSegmentASes': WHATEVER THE INPUT: true; the input reads as it did. -/
def fnExactSegmentASesSpec : ChangeSpec := { name := "fnExactSegmentASes", fn := fun _ => fun
  | [d] => { results := [.lit (.bool true)], args := [d] }
  | _ => none }
def fnExactSegmentASesRow : OpenClaim := { program := "ytpgkmmfhlkipcaa", sum := "07761aae25598f21f3ec91fd32e22e3da6059ac01cea3c1a1798d51931617430", func := "loop.example/g00505/laws.FnExactSegmentASes", spec := "fnExactSegmentASes", apart := false }
def FnExactSegmentASesSaid : Prop := fnExactSegmentASesRow.holds Try.pinned (OpenSpec.ofChange fnExactSegmentASesSpec)

/-- ITS FALSE NEIGHBOUR: 'it returns false'. Refute it at one input. -/
def fnExactSegmentASesWrong : ChangeSpec := { name := "fnExactSegmentASes", fn := fun _ => fun
  | [d] => { results := [.lit (.bool false)], args := [d] }
  | _ => none }
def FnExactSegmentASesWrongFalsely : Prop := fnExactSegmentASesRow.holds Try.pinned (OpenSpec.ofChange fnExactSegmentASesWrong)

/-- 'laws.FnExactSplice': WHATEVER THE INPUT: true; the input reads as it did. -/
def fnExactSpliceSpec : ChangeSpec := { name := "fnExactSplice", fn := fun _ => fun
  | [d1, d2, d3, d4] => { results := [.lit (.bool true)], args := [d1, d2, d3, d4] }
  | _ => none }
def fnExactSpliceRow : OpenClaim := { program := "ytpgkmmfhlkipcaa", sum := "07761aae25598f21f3ec91fd32e22e3da6059ac01cea3c1a1798d51931617430", func := "loop.example/g00505/laws.FnExactSplice", spec := "fnExactSplice", apart := false }
def FnExactSpliceSaid : Prop := fnExactSpliceRow.holds Try.pinned (OpenSpec.ofChange fnExactSpliceSpec)

/-- ITS FALSE NEIGHBOUR: 'it returns false'. Refute it at one input. -/
def fnExactSpliceWrong : ChangeSpec := { name := "fnExactSplice", fn := fun _ => fun
  | [d1, d2, d3, d4] => { results := [.lit (.bool false)], args := [d1, d2, d3, d4] }
  | _ => none }
def FnExactSpliceWrongFalsely : Prop := fnExactSpliceRow.holds Try.pinned (OpenSpec.ofChange fnExactSpliceWrong)

/-- 'laws.FnExactPreferred': WHATEVER THE INPUT: true; the input reads as it did. -/
def fnExactPreferredSpec : ChangeSpec := { name := "fnExactPreferred", fn := fun _ => fun
  | [d1, d2] => { results := [.lit (.bool true)], args := [d1, d2] }
  | _ => none }
def fnExactPreferredRow : OpenClaim := { program := "ytpgkmmfhlkipcaa", sum := "07761aae25598f21f3ec91fd32e22e3da6059ac01cea3c1a1798d51931617430", func := "loop.example/g00505/laws.FnExactPreferred", spec := "fnExactPreferred", apart := false }
def FnExactPreferredSaid : Prop := fnExactPreferredRow.holds Try.pinned (OpenSpec.ofChange fnExactPreferredSpec)

/-- ITS FALSE NEIGHBOUR: 'it returns false'. Refute it at one input. -/
def fnExactPreferredWrong : ChangeSpec := { name := "fnExactPreferred", fn := fun _ => fun
  | [d1, d2] => { results := [.lit (.bool false)], args := [d1, d2] }
  | _ => none }
def FnExactPreferredWrongFalsely : Prop := fnExactPreferredRow.holds Try.pinned (OpenSpec.ofChange fnExactPreferredWrong)

/-- 'laws.FnExactOriginASes': WHATEVER THE INPUT: true; the input reads as it did. -/
def fnExactOriginASesSpec : ChangeSpec := { name := "fnExactOriginASes", fn := fun _ => fun
  | [d] => { results := [.lit (.bool true)], args := [d] }
  | _ => none }
def fnExactOriginASesRow : OpenClaim := { program := "ytpgkmmfhlkipcaa", sum := "07761aae25598f21f3ec91fd32e22e3da6059ac01cea3c1a1798d51931617430", func := "loop.example/g00505/laws.FnExactOriginASes", spec := "fnExactOriginASes", apart := false }
def FnExactOriginASesSaid : Prop := fnExactOriginASesRow.holds Try.pinned (OpenSpec.ofChange fnExactOriginASesSpec)

/-- ITS FALSE NEIGHBOUR: 'it returns false'. Refute it at one input. -/
def fnExactOriginASesWrong : ChangeSpec := { name := "fnExactOriginASes", fn := fun _ => fun
  | [d] => { results := [.lit (.bool false)], args := [d] }
  | _ => none }
def FnExactOriginASesWrongFalsely : Prop := fnExactOriginASesRow.holds Try.pinned (OpenSpec.ofChange fnExactOriginASesWrong)

/-- 'laws.FnExactHasBeacon': WHATEVER THE INPUT: true; the input reads as it did. -/
def fnExactHasBeaconSpec : ChangeSpec := { name := "fnExactHasBeacon", fn := fun _ => fun
  | [d1, d2] => { results := [.lit (.bool true)], args := [d1, d2] }
  | _ => none }
def fnExactHasBeaconRow : OpenClaim := { program := "ytpgkmmfhlkipcaa", sum := "07761aae25598f21f3ec91fd32e22e3da6059ac01cea3c1a1798d51931617430", func := "loop.example/g00505/laws.FnExactHasBeacon", spec := "fnExactHasBeacon", apart := false }
def FnExactHasBeaconSaid : Prop := fnExactHasBeaconRow.holds Try.pinned (OpenSpec.ofChange fnExactHasBeaconSpec)

/-- ITS FALSE NEIGHBOUR: 'it returns false'. Refute it at one input. -/
def fnExactHasBeaconWrong : ChangeSpec := { name := "fnExactHasBeacon", fn := fun _ => fun
  | [d1, d2] => { results := [.lit (.bool false)], args := [d1, d2] }
  | _ => none }
def FnExactHasBeaconWrongFalsely : Prop := fnExactHasBeaconRow.holds Try.pinned (OpenSpec.ofChange fnExactHasBeaconWrong)

/-- 'laws.FnExactVerifyHop': WHATEVER THE INPUT: true; the input reads as it did. -/
def fnExactVerifyHopSpec : ChangeSpec := { name := "fnExactVerifyHop", fn := fun _ => fun
  | [d1, d2, d3, d4] => { results := [.lit (.bool true)], args := [d1, d2, d3, d4] }
  | _ => none }
def fnExactVerifyHopRow : OpenClaim := { program := "ytpgkmmfhlkipcaa", sum := "07761aae25598f21f3ec91fd32e22e3da6059ac01cea3c1a1798d51931617430", func := "loop.example/g00505/laws.FnExactVerifyHop", spec := "fnExactVerifyHop", apart := false }
def FnExactVerifyHopSaid : Prop := fnExactVerifyHopRow.holds Try.pinned (OpenSpec.ofChange fnExactVerifyHopSpec)

/-- ITS FALSE NEIGHBOUR: 'it returns false'. Refute it at one input. -/
def fnExactVerifyHopWrong : ChangeSpec := { name := "fnExactVerifyHop", fn := fun _ => fun
  | [d1, d2, d3, d4] => { results := [.lit (.bool false)], args := [d1, d2, d3, d4] }
  | _ => none }
def FnExactVerifyHopWrongFalsely : Prop := fnExactVerifyHopRow.holds Try.pinned (OpenSpec.ofChange fnExactVerifyHopWrong)

/-- 'laws.FnExactSegmentSize': WHATEVER THE INPUT: true; the input reads as it did. -/
def fnExactSegmentSizeSpec : ChangeSpec := { name := "fnExactSegmentSize", fn := fun _ => fun
  | [d] => { results := [.lit (.bool true)], args := [d] }
  | _ => none }
def fnExactSegmentSizeRow : OpenClaim := { program := "ytpgkmmfhlkipcaa", sum := "07761aae25598f21f3ec91fd32e22e3da6059ac01cea3c1a1798d51931617430", func := "loop.example/g00505/laws.FnExactSegmentSize", spec := "fnExactSegmentSize", apart := false }
def FnExactSegmentSizeSaid : Prop := fnExactSegmentSizeRow.holds Try.pinned (OpenSpec.ofChange fnExactSegmentSizeSpec)

/-- ITS FALSE NEIGHBOUR: 'it returns false'. Refute it at one input. -/
def fnExactSegmentSizeWrong : ChangeSpec := { name := "fnExactSegmentSize", fn := fun _ => fun
  | [d] => { results := [.lit (.bool false)], args := [d] }
  | _ => none }
def FnExactSegmentSizeWrongFalsely : Prop := fnExactSegmentSizeRow.holds Try.pinned (OpenSpec.ofChange fnExactSegmentSizeWrong)

/-- 'laws.FnExactFormatHop': WHATEVER THE INPUT: true; the input reads as it did. -/
def fnExactFormatHopSpec : ChangeSpec := { name := "fnExactFormatHop", fn := fun _ => fun
  | [d1, d2] => { results := [.lit (.bool true)], args := [d1, d2] }
  | _ => none }
def fnExactFormatHopRow : OpenClaim := { program := "ytpgkmmfhlkipcaa", sum := "07761aae25598f21f3ec91fd32e22e3da6059ac01cea3c1a1798d51931617430", func := "loop.example/g00505/laws.FnExactFormatHop", spec := "fnExactFormatHop", apart := false }
def FnExactFormatHopSaid : Prop := fnExactFormatHopRow.holds Try.pinned (OpenSpec.ofChange fnExactFormatHopSpec)

/-- ITS FALSE NEIGHBOUR: 'it returns false'. Refute it at one input. -/
def fnExactFormatHopWrong : ChangeSpec := { name := "fnExactFormatHop", fn := fun _ => fun
  | [d1, d2] => { results := [.lit (.bool false)], args := [d1, d2] }
  | _ => none }
def FnExactFormatHopWrongFalsely : Prop := fnExactFormatHopRow.holds Try.pinned (OpenSpec.ofChange fnExactFormatHopWrong)

/- THE SECOND FORM. 'bulk': how many values and letters a reading holds, each counted each time it is reached (what is shared counts as often as it is met; a slice's spare places count too). A statement '..UptoSaid' is the law's where the arguments, and the package variables that the reading takes, are together of bulk at most 1048576: NARROWER than '..Said'. Prove '..Said' where nothing that the law and all that it calls make is longer than what came in: it says more and counts as full. Else prove '..UptoSaid'. A law counts once. -/
mutual
def uptoBulk {H : Type} : DataW H → Nat
  | .lit (.string bytes) => bytes.length + 1
  | .lit _ => 1
  | .nil => 1
  | .ptr d => uptoBulk d + 1
  | .slice elems spare => uptoBulkAll elems + uptoBulkAll spare + 1
  | .agg parts => uptoBulkAll parts + 1
  | .iface _ d => uptoBulk d + 1
  | .map entries => uptoBulkEntries entries + 1
  | .held _ => 1
def uptoBulkAll {H : Type} : List (DataW H) → Nat
  | [] => 0
  | d :: r => uptoBulk d + uptoBulkAll r
def uptoBulkEntries {H : Type} : List (Lit × DataW H) → Nat
  | [] => 0
  | x :: r => uptoBulkEntry x + uptoBulkEntries r
def uptoBulkEntry {H : Type} : Lit × DataW H → Nat
  | (.string bytes, d) => bytes.length + uptoBulk d + 1
  | (_, d) => uptoBulk d + 1
 end
def uptoSmall : (H : Type) → List (DataW H) → Bool := fun _ ds => decide (uptoBulkAll ds ≤ 1048576)
def OpenSpec.upto (s : _root_.Go.ChangeSpec) : _root_.Go.OpenSpec := { _root_.Go.OpenSpec.ofChange s with cond := some uptoSmall }

/-- 'laws.FnExactAllows', WHERE WHAT IT READS IS OF BULK AT MOST 1048576: true; the input reads as it did. -/
def fnExactAllowsUptoRow : OpenClaim := { program := "ytpgkmmfhlkipcaa", sum := "07761aae25598f21f3ec91fd32e22e3da6059ac01cea3c1a1798d51931617430", func := "loop.example/g00505/laws.FnExactAllows", spec := "fnExactAllows", apart := false, narrowed := true }
def FnExactAllowsUptoSaid : Prop := fnExactAllowsUptoRow.holds Try.pinned (OpenSpec.upto fnExactAllowsSpec)

/-- 'laws.FnExactBetaAt', WHERE WHAT IT READS IS OF BULK AT MOST 1048576: true; the input reads as it did. -/
def fnExactBetaAtUptoRow : OpenClaim := { program := "ytpgkmmfhlkipcaa", sum := "07761aae25598f21f3ec91fd32e22e3da6059ac01cea3c1a1798d51931617430", func := "loop.example/g00505/laws.FnExactBetaAt", spec := "fnExactBetaAt", apart := false, narrowed := true }
def FnExactBetaAtUptoSaid : Prop := fnExactBetaAtUptoRow.holds Try.pinned (OpenSpec.upto fnExactBetaAtSpec)

/-- 'laws.FnExactReadHop', WHERE WHAT IT READS IS OF BULK AT MOST 1048576: true; the input reads as it did. -/
def fnExactReadHopUptoRow : OpenClaim := { program := "ytpgkmmfhlkipcaa", sum := "07761aae25598f21f3ec91fd32e22e3da6059ac01cea3c1a1798d51931617430", func := "loop.example/g00505/laws.FnExactReadHop", spec := "fnExactReadHop", apart := false, narrowed := true }
def FnExactReadHopUptoSaid : Prop := fnExactReadHopUptoRow.holds Try.pinned (OpenSpec.upto fnExactReadHopSpec)

/-- 'laws.FnExactStripMACs', WHERE WHAT IT READS IS OF BULK AT MOST 1048576: true; the input reads as it did. -/
def fnExactStripMACsUptoRow : OpenClaim := { program := "ytpgkmmfhlkipcaa", sum := "07761aae25598f21f3ec91fd32e22e3da6059ac01cea3c1a1798d51931617430", func := "loop.example/g00505/laws.FnExactStripMACs", spec := "fnExactStripMACs", apart := false, narrowed := true }
def FnExactStripMACsUptoSaid : Prop := fnExactStripMACsUptoRow.holds Try.pinned (OpenSpec.upto fnExactStripMACsSpec)

/-- 'laws.FnExactSegmentASes', WHERE WHAT IT READS IS OF BULK AT MOST 1048576: true; the input reads as it did. -/
def fnExactSegmentASesUptoRow : OpenClaim := { program := "ytpgkmmfhlkipcaa", sum := "07761aae25598f21f3ec91fd32e22e3da6059ac01cea3c1a1798d51931617430", func := "loop.example/g00505/laws.FnExactSegmentASes", spec := "fnExactSegmentASes", apart := false, narrowed := true }
def FnExactSegmentASesUptoSaid : Prop := fnExactSegmentASesUptoRow.holds Try.pinned (OpenSpec.upto fnExactSegmentASesSpec)

/-- 'laws.FnExactSplice', WHERE WHAT IT READS IS OF BULK AT MOST 1048576: true; the input reads as it did. -/
def fnExactSpliceUptoRow : OpenClaim := { program := "ytpgkmmfhlkipcaa", sum := "07761aae25598f21f3ec91fd32e22e3da6059ac01cea3c1a1798d51931617430", func := "loop.example/g00505/laws.FnExactSplice", spec := "fnExactSplice", apart := false, narrowed := true }
def FnExactSpliceUptoSaid : Prop := fnExactSpliceUptoRow.holds Try.pinned (OpenSpec.upto fnExactSpliceSpec)

/-- 'laws.FnExactPreferred', WHERE WHAT IT READS IS OF BULK AT MOST 1048576: true; the input reads as it did. -/
def fnExactPreferredUptoRow : OpenClaim := { program := "ytpgkmmfhlkipcaa", sum := "07761aae25598f21f3ec91fd32e22e3da6059ac01cea3c1a1798d51931617430", func := "loop.example/g00505/laws.FnExactPreferred", spec := "fnExactPreferred", apart := false, narrowed := true }
def FnExactPreferredUptoSaid : Prop := fnExactPreferredUptoRow.holds Try.pinned (OpenSpec.upto fnExactPreferredSpec)

/-- 'laws.FnExactOriginASes', WHERE WHAT IT READS IS OF BULK AT MOST 1048576: true; the input reads as it did. -/
def fnExactOriginASesUptoRow : OpenClaim := { program := "ytpgkmmfhlkipcaa", sum := "07761aae25598f21f3ec91fd32e22e3da6059ac01cea3c1a1798d51931617430", func := "loop.example/g00505/laws.FnExactOriginASes", spec := "fnExactOriginASes", apart := false, narrowed := true }
def FnExactOriginASesUptoSaid : Prop := fnExactOriginASesUptoRow.holds Try.pinned (OpenSpec.upto fnExactOriginASesSpec)

/-- 'laws.FnExactHasBeacon', WHERE WHAT IT READS IS OF BULK AT MOST 1048576: true; the input reads as it did. -/
def fnExactHasBeaconUptoRow : OpenClaim := { program := "ytpgkmmfhlkipcaa", sum := "07761aae25598f21f3ec91fd32e22e3da6059ac01cea3c1a1798d51931617430", func := "loop.example/g00505/laws.FnExactHasBeacon", spec := "fnExactHasBeacon", apart := false, narrowed := true }
def FnExactHasBeaconUptoSaid : Prop := fnExactHasBeaconUptoRow.holds Try.pinned (OpenSpec.upto fnExactHasBeaconSpec)

/-- 'laws.FnExactVerifyHop', WHERE WHAT IT READS IS OF BULK AT MOST 1048576: true; the input reads as it did. -/
def fnExactVerifyHopUptoRow : OpenClaim := { program := "ytpgkmmfhlkipcaa", sum := "07761aae25598f21f3ec91fd32e22e3da6059ac01cea3c1a1798d51931617430", func := "loop.example/g00505/laws.FnExactVerifyHop", spec := "fnExactVerifyHop", apart := false, narrowed := true }
def FnExactVerifyHopUptoSaid : Prop := fnExactVerifyHopUptoRow.holds Try.pinned (OpenSpec.upto fnExactVerifyHopSpec)

/-- 'laws.FnExactSegmentSize', WHERE WHAT IT READS IS OF BULK AT MOST 1048576: true; the input reads as it did. -/
def fnExactSegmentSizeUptoRow : OpenClaim := { program := "ytpgkmmfhlkipcaa", sum := "07761aae25598f21f3ec91fd32e22e3da6059ac01cea3c1a1798d51931617430", func := "loop.example/g00505/laws.FnExactSegmentSize", spec := "fnExactSegmentSize", apart := false, narrowed := true }
def FnExactSegmentSizeUptoSaid : Prop := fnExactSegmentSizeUptoRow.holds Try.pinned (OpenSpec.upto fnExactSegmentSizeSpec)

/-- 'laws.FnExactFormatHop', WHERE WHAT IT READS IS OF BULK AT MOST 1048576: true; the input reads as it did. -/
def fnExactFormatHopUptoRow : OpenClaim := { program := "ytpgkmmfhlkipcaa", sum := "07761aae25598f21f3ec91fd32e22e3da6059ac01cea3c1a1798d51931617430", func := "loop.example/g00505/laws.FnExactFormatHop", spec := "fnExactFormatHop", apart := false, narrowed := true }
def FnExactFormatHopUptoSaid : Prop := fnExactFormatHopUptoRow.holds Try.pinned (OpenSpec.upto fnExactFormatHopSpec)

end Rows
end Go.Proofs.Ytpgkmmfhlkipcaa
