/-
  No cell of these rows narrows 'for every input' (looked for: loops, veiled, ifaces, maps, wideKeys, modest, calm, conditions, laid).
  DERIVED. THE GIVEN ROWS OF THIS SEAT. 7 by the template 'for every input the law returns true; each argument reads behind the call as it read before'; 0 by the template 'total and deterministic' (their statements: YtmiclkgkfkcnoaaTotals.lean).
  GIVEN WITH THE SEED: the statements are not yours to turn. If you find one false, say at which input.
  Laid BY PROGRAM, IN A SANDBOX (cutbox-rows.mjs): the forced cells as the released guide's own fill.sh prints them over the translation 7ba9ec3eaf2ae40d… (all of the seat's roots in one cut). By AI agents, Wed Nov 11 2026. No macro, syntax, notation, axiom, sorry.
-/
import Derived.Test.YtmiclkgkfkcnoaaChecked
import GoSem.Claim
import GoSem.ClaimJoined
import GoSem.ClaimMapViews
import Derived.JoinedTies
import Derived.KernelRfl
namespace Go.Proofs.Ytmiclkgkfkcnoaa
/- THE CELL 'sum', in the pinned program and in every row, IS THE sha256 OF THE DUMP (.gsa) THAT YtmiclkgkfkcnoaaProg.lean LOADS. Nothing in Lean hashes anything: it is a label: what it is worth is what the hold of that sum in a sandbox is worth. -/
noncomputable def Try.pinned : Pinned := { name := "ytmiclkgkfkcnoaa", sum := "7ba9ec3eaf2ae40dd53331e7de34f6c5c8118461b9f373c92d6d8b5742eb2e2d", checked := Try.checked }
namespace Rows
def none {H : Type} : Left H := { results := [], args := [] }

/-- 'laws.FnKeeps': WHATEVER THE INPUT: true; the input reads as it did. -/
def fnKeepsSpec : ChangeSpec := { name := "fnKeeps", fn := fun _ => fun
  | [d] => { results := [.lit (.bool true)], args := [d] }
  | _ => none }
def fnKeepsRow : OpenClaim := { program := "ytmiclkgkfkcnoaa", sum := "7ba9ec3eaf2ae40dd53331e7de34f6c5c8118461b9f373c92d6d8b5742eb2e2d", func := "loop.example/g00505/laws.FnKeeps", spec := "fnKeeps", apart := false }
def FnKeepsSaid : Prop := fnKeepsRow.holds Try.pinned (OpenSpec.ofChange fnKeepsSpec)

/-- ITS FALSE NEIGHBOUR: 'it returns false'. Refute it at one input. -/
def fnKeepsWrong : ChangeSpec := { name := "fnKeeps", fn := fun _ => fun
  | [d] => { results := [.lit (.bool false)], args := [d] }
  | _ => none }
def FnKeepsWrongFalsely : Prop := fnKeepsRow.holds Try.pinned (OpenSpec.ofChange fnKeepsWrong)

/-- 'laws.FnExactDropExpired': WHATEVER THE INPUT: true; the input reads as it did. -/
def fnExactDropExpiredSpec : ChangeSpec := { name := "fnExactDropExpired", fn := fun _ => fun
  | [d1, d2] => { results := [.lit (.bool true)], args := [d1, d2] }
  | _ => none }
def fnExactDropExpiredRow : OpenClaim := { program := "ytmiclkgkfkcnoaa", sum := "7ba9ec3eaf2ae40dd53331e7de34f6c5c8118461b9f373c92d6d8b5742eb2e2d", func := "loop.example/g00505/laws.FnExactDropExpired", spec := "fnExactDropExpired", apart := false }
def FnExactDropExpiredSaid : Prop := fnExactDropExpiredRow.holds Try.pinned (OpenSpec.ofChange fnExactDropExpiredSpec)

/-- ITS FALSE NEIGHBOUR: 'it returns false'. Refute it at one input. -/
def fnExactDropExpiredWrong : ChangeSpec := { name := "fnExactDropExpired", fn := fun _ => fun
  | [d1, d2] => { results := [.lit (.bool false)], args := [d1, d2] }
  | _ => none }
def FnExactDropExpiredWrongFalsely : Prop := fnExactDropExpiredRow.holds Try.pinned (OpenSpec.ofChange fnExactDropExpiredWrong)

/-- 'laws.FnPolicies': WHATEVER THE INPUT: true; the input reads as it did. -/
def fnPoliciesSpec : ChangeSpec := { name := "fnPolicies", fn := fun _ => fun
  | [d] => { results := [.lit (.bool true)], args := [d] }
  | _ => none }
def fnPoliciesRow : OpenClaim := { program := "ytmiclkgkfkcnoaa", sum := "7ba9ec3eaf2ae40dd53331e7de34f6c5c8118461b9f373c92d6d8b5742eb2e2d", func := "loop.example/g00505/laws.FnPolicies", spec := "fnPolicies", apart := false }
def FnPoliciesSaid : Prop := fnPoliciesRow.holds Try.pinned (OpenSpec.ofChange fnPoliciesSpec)

/-- ITS FALSE NEIGHBOUR: 'it returns false'. Refute it at one input. -/
def fnPoliciesWrong : ChangeSpec := { name := "fnPolicies", fn := fun _ => fun
  | [d] => { results := [.lit (.bool false)], args := [d] }
  | _ => none }
def FnPoliciesWrongFalsely : Prop := fnPoliciesRow.holds Try.pinned (OpenSpec.ofChange fnPoliciesWrong)

/-- 'laws.FnWires': WHATEVER THE INPUT: true; the input reads as it did. -/
def fnWiresSpec : ChangeSpec := { name := "fnWires", fn := fun _ => fun
  | [d] => { results := [.lit (.bool true)], args := [d] }
  | _ => none }
def fnWiresRow : OpenClaim := { program := "ytmiclkgkfkcnoaa", sum := "7ba9ec3eaf2ae40dd53331e7de34f6c5c8118461b9f373c92d6d8b5742eb2e2d", func := "loop.example/g00505/laws.FnWires", spec := "fnWires", apart := false }
def FnWiresSaid : Prop := fnWiresRow.holds Try.pinned (OpenSpec.ofChange fnWiresSpec)

/-- ITS FALSE NEIGHBOUR: 'it returns false'. Refute it at one input. -/
def fnWiresWrong : ChangeSpec := { name := "fnWires", fn := fun _ => fun
  | [d] => { results := [.lit (.bool false)], args := [d] }
  | _ => none }
def FnWiresWrongFalsely : Prop := fnWiresRow.holds Try.pinned (OpenSpec.ofChange fnWiresWrong)

/-- 'laws.FnWiresBent': WHATEVER THE INPUT: true; the input reads as it did. -/
def fnWiresBentSpec : ChangeSpec := { name := "fnWiresBent", fn := fun _ => fun
  | [d] => { results := [.lit (.bool true)], args := [d] }
  | _ => none }
def fnWiresBentRow : OpenClaim := { program := "ytmiclkgkfkcnoaa", sum := "7ba9ec3eaf2ae40dd53331e7de34f6c5c8118461b9f373c92d6d8b5742eb2e2d", func := "loop.example/g00505/laws.FnWiresBent", spec := "fnWiresBent", apart := false }
def FnWiresBentSaid : Prop := fnWiresBentRow.holds Try.pinned (OpenSpec.ofChange fnWiresBentSpec)

/-- ITS FALSE NEIGHBOUR: 'it returns false'. Refute it at one input. -/
def fnWiresBentWrong : ChangeSpec := { name := "fnWiresBent", fn := fun _ => fun
  | [d] => { results := [.lit (.bool false)], args := [d] }
  | _ => none }
def FnWiresBentWrongFalsely : Prop := fnWiresBentRow.holds Try.pinned (OpenSpec.ofChange fnWiresBentWrong)

/-- 'laws.FnStores': WHATEVER THE INPUT: true; the input reads as it did. -/
def fnStoresSpec : ChangeSpec := { name := "fnStores", fn := fun _ => fun
  | [d] => { results := [.lit (.bool true)], args := [d] }
  | _ => none }
def fnStoresRow : OpenClaim := { program := "ytmiclkgkfkcnoaa", sum := "7ba9ec3eaf2ae40dd53331e7de34f6c5c8118461b9f373c92d6d8b5742eb2e2d", func := "loop.example/g00505/laws.FnStores", spec := "fnStores", apart := false }
def FnStoresSaid : Prop := fnStoresRow.holds Try.pinned (OpenSpec.ofChange fnStoresSpec)

/-- ITS FALSE NEIGHBOUR: 'it returns false'. Refute it at one input. -/
def fnStoresWrong : ChangeSpec := { name := "fnStores", fn := fun _ => fun
  | [d] => { results := [.lit (.bool false)], args := [d] }
  | _ => none }
def FnStoresWrongFalsely : Prop := fnStoresRow.holds Try.pinned (OpenSpec.ofChange fnStoresWrong)

/-- 'laws.FnSegs': WHATEVER THE INPUT: true; the input reads as it did. -/
def fnSegsSpec : ChangeSpec := { name := "fnSegs", fn := fun _ => fun
  | [d] => { results := [.lit (.bool true)], args := [d] }
  | _ => none }
def fnSegsRow : OpenClaim := { program := "ytmiclkgkfkcnoaa", sum := "7ba9ec3eaf2ae40dd53331e7de34f6c5c8118461b9f373c92d6d8b5742eb2e2d", func := "loop.example/g00505/laws.FnSegs", spec := "fnSegs", apart := false }
def FnSegsSaid : Prop := fnSegsRow.holds Try.pinned (OpenSpec.ofChange fnSegsSpec)

/-- ITS FALSE NEIGHBOUR: 'it returns false'. Refute it at one input. -/
def fnSegsWrong : ChangeSpec := { name := "fnSegs", fn := fun _ => fun
  | [d] => { results := [.lit (.bool false)], args := [d] }
  | _ => none }
def FnSegsWrongFalsely : Prop := fnSegsRow.holds Try.pinned (OpenSpec.ofChange fnSegsWrong)

/- THE SECOND FORM. 'bulk': how many values and letters a reading holds, each counted each time it is reached (what is shared counts as often as it is met; a slice's spare places count too). A statement '..UptoSaid' is the law's where the arguments, and the package variables that the reading takes, are together of bulk at most 1048576: NARROWER than '..Said'. Prove '..Said' where nothing that the law and all that it calls make is longer than what came in: it says more and counts as full. Else prove '..UptoSaid'. A law counts once. -/
mutual
def uptoBulk {H : Type} : DataW H → Nat
  | .lit (.string bytes) => bytes.length + 1
  | .lit _ => 1
  | .nil => 1
  | .ptr d => uptoBulk d + 1
  | .slice elems spare => uptoBulkAll elems + uptoBulkAll spare + 1
  | .agg parts => uptoBulkAll parts + 1
  | .iface _ d => uptoBulk d + 1
  | .map entries => uptoBulkEntries entries + 1
  | .held _ => 1
def uptoBulkAll {H : Type} : List (DataW H) → Nat
  | [] => 0
  | d :: r => uptoBulk d + uptoBulkAll r
def uptoBulkEntries {H : Type} : List (Lit × DataW H) → Nat
  | [] => 0
  | x :: r => uptoBulkEntry x + uptoBulkEntries r
def uptoBulkEntry {H : Type} : Lit × DataW H → Nat
  | (.string bytes, d) => bytes.length + uptoBulk d + 1
  | (_, d) => uptoBulk d + 1
 end
def uptoSmall : (H : Type) → List (DataW H) → Bool := fun _ ds => decide (uptoBulkAll ds ≤ 1048576)
def OpenSpec.upto (s : _root_.Go.ChangeSpec) : _root_.Go.OpenSpec := { _root_.Go.OpenSpec.ofChange s with cond := some uptoSmall }

/-- 'laws.FnKeeps', WHERE WHAT IT READS IS OF BULK AT MOST 1048576: true; the input reads as it did. -/
def fnKeepsUptoRow : OpenClaim := { program := "ytmiclkgkfkcnoaa", sum := "7ba9ec3eaf2ae40dd53331e7de34f6c5c8118461b9f373c92d6d8b5742eb2e2d", func := "loop.example/g00505/laws.FnKeeps", spec := "fnKeeps", apart := false, narrowed := true }
def FnKeepsUptoSaid : Prop := fnKeepsUptoRow.holds Try.pinned (OpenSpec.upto fnKeepsSpec)

/-- 'laws.FnExactDropExpired', WHERE WHAT IT READS IS OF BULK AT MOST 1048576: true; the input reads as it did. -/
def fnExactDropExpiredUptoRow : OpenClaim := { program := "ytmiclkgkfkcnoaa", sum := "7ba9ec3eaf2ae40dd53331e7de34f6c5c8118461b9f373c92d6d8b5742eb2e2d", func := "loop.example/g00505/laws.FnExactDropExpired", spec := "fnExactDropExpired", apart := false, narrowed := true }
def FnExactDropExpiredUptoSaid : Prop := fnExactDropExpiredUptoRow.holds Try.pinned (OpenSpec.upto fnExactDropExpiredSpec)

/-- 'laws.FnPolicies', WHERE WHAT IT READS IS OF BULK AT MOST 1048576: true; the input reads as it did. -/
def fnPoliciesUptoRow : OpenClaim := { program := "ytmiclkgkfkcnoaa", sum := "7ba9ec3eaf2ae40dd53331e7de34f6c5c8118461b9f373c92d6d8b5742eb2e2d", func := "loop.example/g00505/laws.FnPolicies", spec := "fnPolicies", apart := false, narrowed := true }
def FnPoliciesUptoSaid : Prop := fnPoliciesUptoRow.holds Try.pinned (OpenSpec.upto fnPoliciesSpec)

/-- 'laws.FnWires', WHERE WHAT IT READS IS OF BULK AT MOST 1048576: true; the input reads as it did. -/
def fnWiresUptoRow : OpenClaim := { program := "ytmiclkgkfkcnoaa", sum := "7ba9ec3eaf2ae40dd53331e7de34f6c5c8118461b9f373c92d6d8b5742eb2e2d", func := "loop.example/g00505/laws.FnWires", spec := "fnWires", apart := false, narrowed := true }
def FnWiresUptoSaid : Prop := fnWiresUptoRow.holds Try.pinned (OpenSpec.upto fnWiresSpec)

/-- 'laws.FnWiresBent', WHERE WHAT IT READS IS OF BULK AT MOST 1048576: true; the input reads as it did. -/
def fnWiresBentUptoRow : OpenClaim := { program := "ytmiclkgkfkcnoaa", sum := "7ba9ec3eaf2ae40dd53331e7de34f6c5c8118461b9f373c92d6d8b5742eb2e2d", func := "loop.example/g00505/laws.FnWiresBent", spec := "fnWiresBent", apart := false, narrowed := true }
def FnWiresBentUptoSaid : Prop := fnWiresBentUptoRow.holds Try.pinned (OpenSpec.upto fnWiresBentSpec)

/-- 'laws.FnStores', WHERE WHAT IT READS IS OF BULK AT MOST 1048576: true; the input reads as it did. -/
def fnStoresUptoRow : OpenClaim := { program := "ytmiclkgkfkcnoaa", sum := "7ba9ec3eaf2ae40dd53331e7de34f6c5c8118461b9f373c92d6d8b5742eb2e2d", func := "loop.example/g00505/laws.FnStores", spec := "fnStores", apart := false, narrowed := true }
def FnStoresUptoSaid : Prop := fnStoresUptoRow.holds Try.pinned (OpenSpec.upto fnStoresSpec)

/-- 'laws.FnSegs', WHERE WHAT IT READS IS OF BULK AT MOST 1048576: true; the input reads as it did. -/
def fnSegsUptoRow : OpenClaim := { program := "ytmiclkgkfkcnoaa", sum := "7ba9ec3eaf2ae40dd53331e7de34f6c5c8118461b9f373c92d6d8b5742eb2e2d", func := "loop.example/g00505/laws.FnSegs", spec := "fnSegs", apart := false, narrowed := true }
def FnSegsUptoSaid : Prop := fnSegsUptoRow.holds Try.pinned (OpenSpec.upto fnSegsSpec)

end Rows
end Go.Proofs.Ytmiclkgkfkcnoaa
