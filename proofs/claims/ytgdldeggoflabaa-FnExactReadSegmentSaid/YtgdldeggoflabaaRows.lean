/-
  No cell of these rows narrows 'for every input' (looked for: loops, veiled, ifaces, maps, wideKeys, modest, calm, conditions, laid).
  DERIVED. THE GIVEN ROWS OF THIS SEAT. 9 by the template 'for every input the law returns true; each argument reads behind the call as it read before'; 0 by the template 'total and deterministic' (their statements: YtgdldeggoflabaaTotals.lean).
  GIVEN WITH THE SEED: the statements are not yours to turn. If you find one false, say at which input.
  Laid BY PROGRAM, IN A SANDBOX (cutbox-rows.mjs): the forced cells as the released guide's own fill.sh prints them over the translation 21fdb1f420514d8a… (all of the seat's roots in one cut). By AI agents, Wed Nov 11 2026. No macro, syntax, notation, axiom, sorry.
-/
import Derived.Test.YtgdldeggoflabaaChecked
import GoSem.Claim
import GoSem.ClaimJoined
import GoSem.ClaimMapViews
import Derived.JoinedTies
import Derived.KernelRfl
namespace Go.Proofs.Ytgdldeggoflabaa
/- THE CELL 'sum', in the pinned program and in every row, IS THE sha256 OF THE DUMP (.gsa) THAT YtgdldeggoflabaaProg.lean LOADS. Nothing in Lean hashes anything: it is a label: what it is worth is what the hold of that sum in a sandbox is worth. -/
noncomputable def Try.pinned : Pinned := { name := "ytgdldeggoflabaa", sum := "21fdb1f420514d8a88a4bd5fda577087daa236e81c053a4896bbc74a9236c28e", checked := Try.checked }
namespace Rows
def none {H : Type} : Left H := { results := [], args := [] }

/-- 'laws.FnExactValidStore': WHATEVER THE INPUT: true; the input reads as it did. -/
def fnExactValidStoreSpec : ChangeSpec := { name := "fnExactValidStore", fn := fun _ => fun
  | [d1, d2, d3] => { results := [.lit (.bool true)], args := [d1, d2, d3] }
  | _ => none }
def fnExactValidStoreRow : OpenClaim := { program := "ytgdldeggoflabaa", sum := "21fdb1f420514d8a88a4bd5fda577087daa236e81c053a4896bbc74a9236c28e", func := "loop.example/g00505/laws.FnExactValidStore", spec := "fnExactValidStore", apart := false }
def FnExactValidStoreSaid : Prop := fnExactValidStoreRow.holds Try.pinned (OpenSpec.ofChange fnExactValidStoreSpec)

/-- ITS FALSE NEIGHBOUR: 'it returns false'. Refute it at one input. -/
def fnExactValidStoreWrong : ChangeSpec := { name := "fnExactValidStore", fn := fun _ => fun
  | [d1, d2, d3] => { results := [.lit (.bool false)], args := [d1, d2, d3] }
  | _ => none }
def FnExactValidStoreWrongFalsely : Prop := fnExactValidStoreRow.holds Try.pinned (OpenSpec.ofChange fnExactValidStoreWrong)

/-- 'laws.FnExactDropExpired': WHATEVER THE INPUT: true; the input reads as it did. -/
def fnExactDropExpiredSpec : ChangeSpec := { name := "fnExactDropExpired", fn := fun _ => fun
  | [d1, d2] => { results := [.lit (.bool true)], args := [d1, d2] }
  | _ => none }
def fnExactDropExpiredRow : OpenClaim := { program := "ytgdldeggoflabaa", sum := "21fdb1f420514d8a88a4bd5fda577087daa236e81c053a4896bbc74a9236c28e", func := "loop.example/g00505/laws.FnExactDropExpired", spec := "fnExactDropExpired", apart := false }
def FnExactDropExpiredSaid : Prop := fnExactDropExpiredRow.holds Try.pinned (OpenSpec.ofChange fnExactDropExpiredSpec)

/-- ITS FALSE NEIGHBOUR: 'it returns false'. Refute it at one input. -/
def fnExactDropExpiredWrong : ChangeSpec := { name := "fnExactDropExpired", fn := fun _ => fun
  | [d1, d2] => { results := [.lit (.bool false)], args := [d1, d2] }
  | _ => none }
def FnExactDropExpiredWrongFalsely : Prop := fnExactDropExpiredRow.holds Try.pinned (OpenSpec.ofChange fnExactDropExpiredWrong)

/-- 'laws.FnExactEqualBeacons': WHATEVER THE INPUT: true; the input reads as it did. -/
def fnExactEqualBeaconsSpec : ChangeSpec := { name := "fnExactEqualBeacons", fn := fun _ => fun
  | [d1, d2] => { results := [.lit (.bool true)], args := [d1, d2] }
  | _ => none }
def fnExactEqualBeaconsRow : OpenClaim := { program := "ytgdldeggoflabaa", sum := "21fdb1f420514d8a88a4bd5fda577087daa236e81c053a4896bbc74a9236c28e", func := "loop.example/g00505/laws.FnExactEqualBeacons", spec := "fnExactEqualBeacons", apart := false }
def FnExactEqualBeaconsSaid : Prop := fnExactEqualBeaconsRow.holds Try.pinned (OpenSpec.ofChange fnExactEqualBeaconsSpec)

/-- ITS FALSE NEIGHBOUR: 'it returns false'. Refute it at one input. -/
def fnExactEqualBeaconsWrong : ChangeSpec := { name := "fnExactEqualBeacons", fn := fun _ => fun
  | [d1, d2] => { results := [.lit (.bool false)], args := [d1, d2] }
  | _ => none }
def FnExactEqualBeaconsWrongFalsely : Prop := fnExactEqualBeaconsRow.holds Try.pinned (OpenSpec.ofChange fnExactEqualBeaconsWrong)

/-- 'laws.FnExactSegmentUsable': WHATEVER THE INPUT: true; the input reads as it did. -/
def fnExactSegmentUsableSpec : ChangeSpec := { name := "fnExactSegmentUsable", fn := fun _ => fun
  | [d1, d2, d3] => { results := [.lit (.bool true)], args := [d1, d2, d3] }
  | _ => none }
def fnExactSegmentUsableRow : OpenClaim := { program := "ytgdldeggoflabaa", sum := "21fdb1f420514d8a88a4bd5fda577087daa236e81c053a4896bbc74a9236c28e", func := "loop.example/g00505/laws.FnExactSegmentUsable", spec := "fnExactSegmentUsable", apart := false }
def FnExactSegmentUsableSaid : Prop := fnExactSegmentUsableRow.holds Try.pinned (OpenSpec.ofChange fnExactSegmentUsableSpec)

/-- ITS FALSE NEIGHBOUR: 'it returns false'. Refute it at one input. -/
def fnExactSegmentUsableWrong : ChangeSpec := { name := "fnExactSegmentUsable", fn := fun _ => fun
  | [d1, d2, d3] => { results := [.lit (.bool false)], args := [d1, d2, d3] }
  | _ => none }
def FnExactSegmentUsableWrongFalsely : Prop := fnExactSegmentUsableRow.holds Try.pinned (OpenSpec.ofChange fnExactSegmentUsableWrong)

/-- 'laws.FnExactReachableCores': WHATEVER THE INPUT: true; the input reads as it did. -/
def fnExactReachableCoresSpec : ChangeSpec := { name := "fnExactReachableCores", fn := fun _ => fun
  | [d1, d2] => { results := [.lit (.bool true)], args := [d1, d2] }
  | _ => none }
def fnExactReachableCoresRow : OpenClaim := { program := "ytgdldeggoflabaa", sum := "21fdb1f420514d8a88a4bd5fda577087daa236e81c053a4896bbc74a9236c28e", func := "loop.example/g00505/laws.FnExactReachableCores", spec := "fnExactReachableCores", apart := false }
def FnExactReachableCoresSaid : Prop := fnExactReachableCoresRow.holds Try.pinned (OpenSpec.ofChange fnExactReachableCoresSpec)

/-- ITS FALSE NEIGHBOUR: 'it returns false'. Refute it at one input. -/
def fnExactReachableCoresWrong : ChangeSpec := { name := "fnExactReachableCores", fn := fun _ => fun
  | [d1, d2] => { results := [.lit (.bool false)], args := [d1, d2] }
  | _ => none }
def FnExactReachableCoresWrongFalsely : Prop := fnExactReachableCoresRow.holds Try.pinned (OpenSpec.ofChange fnExactReachableCoresWrong)

/-- 'laws.FnExactOriginInterfaces': WHATEVER THE INPUT: true; the input reads as it did. -/
def fnExactOriginInterfacesSpec : ChangeSpec := { name := "fnExactOriginInterfaces", fn := fun _ => fun
  | [d1, d2, d3] => { results := [.lit (.bool true)], args := [d1, d2, d3] }
  | _ => none }
def fnExactOriginInterfacesRow : OpenClaim := { program := "ytgdldeggoflabaa", sum := "21fdb1f420514d8a88a4bd5fda577087daa236e81c053a4896bbc74a9236c28e", func := "loop.example/g00505/laws.FnExactOriginInterfaces", spec := "fnExactOriginInterfaces", apart := false }
def FnExactOriginInterfacesSaid : Prop := fnExactOriginInterfacesRow.holds Try.pinned (OpenSpec.ofChange fnExactOriginInterfacesSpec)

/-- ITS FALSE NEIGHBOUR: 'it returns false'. Refute it at one input. -/
def fnExactOriginInterfacesWrong : ChangeSpec := { name := "fnExactOriginInterfaces", fn := fun _ => fun
  | [d1, d2, d3] => { results := [.lit (.bool false)], args := [d1, d2, d3] }
  | _ => none }
def FnExactOriginInterfacesWrongFalsely : Prop := fnExactOriginInterfacesRow.holds Try.pinned (OpenSpec.ofChange fnExactOriginInterfacesWrong)

/-- 'laws.FnExactReadSegment': WHATEVER THE INPUT: true; the input reads as it did. -/
def fnExactReadSegmentSpec : ChangeSpec := { name := "fnExactReadSegment", fn := fun _ => fun
  | [d1, d2] => { results := [.lit (.bool true)], args := [d1, d2] }
  | _ => none }
def fnExactReadSegmentRow : OpenClaim := { program := "ytgdldeggoflabaa", sum := "21fdb1f420514d8a88a4bd5fda577087daa236e81c053a4896bbc74a9236c28e", func := "loop.example/g00505/laws.FnExactReadSegment", spec := "fnExactReadSegment", apart := false }
def FnExactReadSegmentSaid : Prop := fnExactReadSegmentRow.holds Try.pinned (OpenSpec.ofChange fnExactReadSegmentSpec)

/-- ITS FALSE NEIGHBOUR: 'it returns false'. Refute it at one input. -/
def fnExactReadSegmentWrong : ChangeSpec := { name := "fnExactReadSegment", fn := fun _ => fun
  | [d1, d2] => { results := [.lit (.bool false)], args := [d1, d2] }
  | _ => none }
def FnExactReadSegmentWrongFalsely : Prop := fnExactReadSegmentRow.holds Try.pinned (OpenSpec.ofChange fnExactReadSegmentWrong)

/-- 'laws.FnExactAppendSegment': WHATEVER THE INPUT: true; the input reads as it did. -/
def fnExactAppendSegmentSpec : ChangeSpec := { name := "fnExactAppendSegment", fn := fun _ => fun
  | [d1, d2] => { results := [.lit (.bool true)], args := [d1, d2] }
  | _ => none }
def fnExactAppendSegmentRow : OpenClaim := { program := "ytgdldeggoflabaa", sum := "21fdb1f420514d8a88a4bd5fda577087daa236e81c053a4896bbc74a9236c28e", func := "loop.example/g00505/laws.FnExactAppendSegment", spec := "fnExactAppendSegment", apart := false }
def FnExactAppendSegmentSaid : Prop := fnExactAppendSegmentRow.holds Try.pinned (OpenSpec.ofChange fnExactAppendSegmentSpec)

/-- ITS FALSE NEIGHBOUR: 'it returns false'. Refute it at one input. -/
def fnExactAppendSegmentWrong : ChangeSpec := { name := "fnExactAppendSegment", fn := fun _ => fun
  | [d1, d2] => { results := [.lit (.bool false)], args := [d1, d2] }
  | _ => none }
def FnExactAppendSegmentWrongFalsely : Prop := fnExactAppendSegmentRow.holds Try.pinned (OpenSpec.ofChange fnExactAppendSegmentWrong)

/-- 'laws.FnExactFormatSegment': WHATEVER THE INPUT: true; the input reads as it did. -/
def fnExactFormatSegmentSpec : ChangeSpec := { name := "fnExactFormatSegment", fn := fun _ => fun
  | [d1, d2] => { results := [.lit (.bool true)], args := [d1, d2] }
  | _ => none }
def fnExactFormatSegmentRow : OpenClaim := { program := "ytgdldeggoflabaa", sum := "21fdb1f420514d8a88a4bd5fda577087daa236e81c053a4896bbc74a9236c28e", func := "loop.example/g00505/laws.FnExactFormatSegment", spec := "fnExactFormatSegment", apart := false }
def FnExactFormatSegmentSaid : Prop := fnExactFormatSegmentRow.holds Try.pinned (OpenSpec.ofChange fnExactFormatSegmentSpec)

/-- ITS FALSE NEIGHBOUR: 'it returns false'. Refute it at one input. -/
def fnExactFormatSegmentWrong : ChangeSpec := { name := "fnExactFormatSegment", fn := fun _ => fun
  | [d1, d2] => { results := [.lit (.bool false)], args := [d1, d2] }
  | _ => none }
def FnExactFormatSegmentWrongFalsely : Prop := fnExactFormatSegmentRow.holds Try.pinned (OpenSpec.ofChange fnExactFormatSegmentWrong)

/- THE SECOND FORM. 'bulk': how many values and letters a reading holds, each counted each time it is reached (what is shared counts as often as it is met; a slice's spare places count too). A statement '..UptoSaid' is the law's where the arguments, and the package variables that the reading takes, are together of bulk at most 1048576: NARROWER than '..Said'. Prove '..Said' where nothing that the law and all that it calls make is longer than what came in: it says more and counts as full. Else prove '..UptoSaid'. A law counts once. -/
mutual
def uptoBulk {H : Type} : DataW H → Nat
  | .lit (.string bytes) => bytes.length + 1
  | .lit _ => 1
  | .nil => 1
  | .ptr d => uptoBulk d + 1
  | .slice elems spare => uptoBulkAll elems + uptoBulkAll spare + 1
  | .agg parts => uptoBulkAll parts + 1
  | .iface _ d => uptoBulk d + 1
  | .map entries => uptoBulkEntries entries + 1
  | .held _ => 1
def uptoBulkAll {H : Type} : List (DataW H) → Nat
  | [] => 0
  | d :: r => uptoBulk d + uptoBulkAll r
def uptoBulkEntries {H : Type} : List (Lit × DataW H) → Nat
  | [] => 0
  | x :: r => uptoBulkEntry x + uptoBulkEntries r
def uptoBulkEntry {H : Type} : Lit × DataW H → Nat
  | (.string bytes, d) => bytes.length + uptoBulk d + 1
  | (_, d) => uptoBulk d + 1
 end
def uptoSmall : (H : Type) → List (DataW H) → Bool := fun _ ds => decide (uptoBulkAll ds ≤ 1048576)
def OpenSpec.upto (s : _root_.Go.ChangeSpec) : _root_.Go.OpenSpec := { _root_.Go.OpenSpec.ofChange s with cond := some uptoSmall }

/-- 'laws.FnExactValidStore', WHERE WHAT IT READS IS OF BULK AT MOST 1048576: true; the input reads as it did. -/
def fnExactValidStoreUptoRow : OpenClaim := { program := "ytgdldeggoflabaa", sum := "21fdb1f420514d8a88a4bd5fda577087daa236e81c053a4896bbc74a9236c28e", func := "loop.example/g00505/laws.FnExactValidStore", spec := "fnExactValidStore", apart := false, narrowed := true }
def FnExactValidStoreUptoSaid : Prop := fnExactValidStoreUptoRow.holds Try.pinned (OpenSpec.upto fnExactValidStoreSpec)

/-- 'laws.FnExactDropExpired', WHERE WHAT IT READS IS OF BULK AT MOST 1048576: true; the input reads as it did. -/
def fnExactDropExpiredUptoRow : OpenClaim := { program := "ytgdldeggoflabaa", sum := "21fdb1f420514d8a88a4bd5fda577087daa236e81c053a4896bbc74a9236c28e", func := "loop.example/g00505/laws.FnExactDropExpired", spec := "fnExactDropExpired", apart := false, narrowed := true }
def FnExactDropExpiredUptoSaid : Prop := fnExactDropExpiredUptoRow.holds Try.pinned (OpenSpec.upto fnExactDropExpiredSpec)

/-- 'laws.FnExactEqualBeacons', WHERE WHAT IT READS IS OF BULK AT MOST 1048576: true; the input reads as it did. -/
def fnExactEqualBeaconsUptoRow : OpenClaim := { program := "ytgdldeggoflabaa", sum := "21fdb1f420514d8a88a4bd5fda577087daa236e81c053a4896bbc74a9236c28e", func := "loop.example/g00505/laws.FnExactEqualBeacons", spec := "fnExactEqualBeacons", apart := false, narrowed := true }
def FnExactEqualBeaconsUptoSaid : Prop := fnExactEqualBeaconsUptoRow.holds Try.pinned (OpenSpec.upto fnExactEqualBeaconsSpec)

/-- 'laws.FnExactSegmentUsable', WHERE WHAT IT READS IS OF BULK AT MOST 1048576: true; the input reads as it did. -/
def fnExactSegmentUsableUptoRow : OpenClaim := { program := "ytgdldeggoflabaa", sum := "21fdb1f420514d8a88a4bd5fda577087daa236e81c053a4896bbc74a9236c28e", func := "loop.example/g00505/laws.FnExactSegmentUsable", spec := "fnExactSegmentUsable", apart := false, narrowed := true }
def FnExactSegmentUsableUptoSaid : Prop := fnExactSegmentUsableUptoRow.holds Try.pinned (OpenSpec.upto fnExactSegmentUsableSpec)

/-- 'laws.FnExactReachableCores', WHERE WHAT IT READS IS OF BULK AT MOST 1048576: true; the input reads as it did. -/
def fnExactReachableCoresUptoRow : OpenClaim := { program := "ytgdldeggoflabaa", sum := "21fdb1f420514d8a88a4bd5fda577087daa236e81c053a4896bbc74a9236c28e", func := "loop.example/g00505/laws.FnExactReachableCores", spec := "fnExactReachableCores", apart := false, narrowed := true }
def FnExactReachableCoresUptoSaid : Prop := fnExactReachableCoresUptoRow.holds Try.pinned (OpenSpec.upto fnExactReachableCoresSpec)

/-- 'laws.FnExactOriginInterfaces', WHERE WHAT IT READS IS OF BULK AT MOST 1048576: true; the input reads as it did. -/
def fnExactOriginInterfacesUptoRow : OpenClaim := { program := "ytgdldeggoflabaa", sum := "21fdb1f420514d8a88a4bd5fda577087daa236e81c053a4896bbc74a9236c28e", func := "loop.example/g00505/laws.FnExactOriginInterfaces", spec := "fnExactOriginInterfaces", apart := false, narrowed := true }
def FnExactOriginInterfacesUptoSaid : Prop := fnExactOriginInterfacesUptoRow.holds Try.pinned (OpenSpec.upto fnExactOriginInterfacesSpec)

/-- 'laws.FnExactReadSegment', WHERE WHAT IT READS IS OF BULK AT MOST 1048576: true; the input reads as it did. -/
def fnExactReadSegmentUptoRow : OpenClaim := { program := "ytgdldeggoflabaa", sum := "21fdb1f420514d8a88a4bd5fda577087daa236e81c053a4896bbc74a9236c28e", func := "loop.example/g00505/laws.FnExactReadSegment", spec := "fnExactReadSegment", apart := false, narrowed := true }
def FnExactReadSegmentUptoSaid : Prop := fnExactReadSegmentUptoRow.holds Try.pinned (OpenSpec.upto fnExactReadSegmentSpec)

/-- 'laws.FnExactAppendSegment', WHERE WHAT IT READS IS OF BULK AT MOST 1048576: true; the input reads as it did. -/
def fnExactAppendSegmentUptoRow : OpenClaim := { program := "ytgdldeggoflabaa", sum := "21fdb1f420514d8a88a4bd5fda577087daa236e81c053a4896bbc74a9236c28e", func := "loop.example/g00505/laws.FnExactAppendSegment", spec := "fnExactAppendSegment", apart := false, narrowed := true }
def FnExactAppendSegmentUptoSaid : Prop := fnExactAppendSegmentUptoRow.holds Try.pinned (OpenSpec.upto fnExactAppendSegmentSpec)

/-- 'laws.FnExactFormatSegment', WHERE WHAT IT READS IS OF BULK AT MOST 1048576: true; the input reads as it did. -/
def fnExactFormatSegmentUptoRow : OpenClaim := { program := "ytgdldeggoflabaa", sum := "21fdb1f420514d8a88a4bd5fda577087daa236e81c053a4896bbc74a9236c28e", func := "loop.example/g00505/laws.FnExactFormatSegment", spec := "fnExactFormatSegment", apart := false, narrowed := true }
def FnExactFormatSegmentUptoSaid : Prop := fnExactFormatSegmentUptoRow.holds Try.pinned (OpenSpec.upto fnExactFormatSegmentSpec)

end Rows
end Go.Proofs.Ytgdldeggoflabaa
