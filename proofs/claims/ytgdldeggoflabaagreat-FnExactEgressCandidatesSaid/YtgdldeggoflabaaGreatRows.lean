/-
  No cell of these rows narrows 'for every input' (looked for: loops, veiled, ifaces, maps, wideKeys, modest, calm, conditions, laid).
  DERIVED. THE GIVEN ROWS OF THIS SEAT. 3 by the template 'for every input the law returns true; each argument reads behind the call as it read before'; 0 by the template 'total and deterministic' (their statements: YtgdldeggoflabaaGreatTotals.lean).
  GIVEN WITH THE SEED: the statements are not yours to turn. If you find one false, say at which input.
  Laid BY PROGRAM, IN A SANDBOX (cutbox-rows.mjs): the forced cells as the released guide's own fill.sh prints them over the translation ef21d7782ce9cb87… (all of the seat's roots in one cut). By AI agents, Wed Nov 11 2026. No macro, syntax, notation, axiom, sorry.
-/
import Derived.Test.YtgdldeggoflabaaGreatChecked
import GoSem.Claim
import GoSem.ClaimJoined
import GoSem.ClaimMapViews
import Derived.JoinedTies
import Derived.KernelRfl
namespace Go.Proofs.YtgdldeggoflabaaGreat
/- THE CELL 'sum', in the pinned program and in every row, IS THE sha256 OF THE DUMP (.gsa) THAT YtgdldeggoflabaaGreatProg.lean LOADS. Nothing in Lean hashes anything: it is a label: what it is worth is what the hold of that sum in a sandbox is worth. -/
noncomputable def Tryz.pinned : Pinned := { name := "ytgdldeggoflabaagreat", sum := "ef21d7782ce9cb8727143e3256fc015ad7fcdbf7dfc1926e9243a97139e4efd3", checked := Tryz.checked }
namespace Rows
def none {H : Type} : Left H := { results := [], args := [] }

/-- 'laws.FnExactEgressCandidates': WHATEVER THE INPUT: true; the input reads as it did. -/
def fnExactEgressCandidatesSpec : ChangeSpec := { name := "fnExactEgressCandidates", fn := fun _ => fun
  | [d1, d2, d3, d4, d5] => { results := [.lit (.bool true)], args := [d1, d2, d3, d4, d5] }
  | _ => none }
def fnExactEgressCandidatesRow : OpenClaim := { program := "ytgdldeggoflabaagreat", sum := "ef21d7782ce9cb8727143e3256fc015ad7fcdbf7dfc1926e9243a97139e4efd3", func := "loop.example/g00505/laws.FnExactEgressCandidates", spec := "fnExactEgressCandidates", apart := false }
def FnExactEgressCandidatesSaid : Prop := fnExactEgressCandidatesRow.holds Tryz.pinned (OpenSpec.ofChange fnExactEgressCandidatesSpec)

/-- ITS FALSE NEIGHBOUR: 'it returns false'. Refute it at one input. -/
def fnExactEgressCandidatesWrong : ChangeSpec := { name := "fnExactEgressCandidates", fn := fun _ => fun
  | [d1, d2, d3, d4, d5] => { results := [.lit (.bool false)], args := [d1, d2, d3, d4, d5] }
  | _ => none }
def FnExactEgressCandidatesWrongFalsely : Prop := fnExactEgressCandidatesRow.holds Tryz.pinned (OpenSpec.ofChange fnExactEgressCandidatesWrong)

/-- 'laws.FnExactExtend': WHATEVER THE INPUT: true; the input reads as it did. -/
def fnExactExtendSpec : ChangeSpec := { name := "fnExactExtend", fn := fun _ => fun
  | [d1, d2, d3, d4, d5, d6] => { results := [.lit (.bool true)], args := [d1, d2, d3, d4, d5, d6] }
  | _ => none }
def fnExactExtendRow : OpenClaim := { program := "ytgdldeggoflabaagreat", sum := "ef21d7782ce9cb8727143e3256fc015ad7fcdbf7dfc1926e9243a97139e4efd3", func := "loop.example/g00505/laws.FnExactExtend", spec := "fnExactExtend", apart := false }
def FnExactExtendSaid : Prop := fnExactExtendRow.holds Tryz.pinned (OpenSpec.ofChange fnExactExtendSpec)

/-- ITS FALSE NEIGHBOUR: 'it returns false'. Refute it at one input. -/
def fnExactExtendWrong : ChangeSpec := { name := "fnExactExtend", fn := fun _ => fun
  | [d1, d2, d3, d4, d5, d6] => { results := [.lit (.bool false)], args := [d1, d2, d3, d4, d5, d6] }
  | _ => none }
def FnExactExtendWrongFalsely : Prop := fnExactExtendRow.holds Tryz.pinned (OpenSpec.ofChange fnExactExtendWrong)

/-- 'laws.FnExactTerminate': WHATEVER THE INPUT: true; the input reads as it did. -/
def fnExactTerminateSpec : ChangeSpec := { name := "fnExactTerminate", fn := fun _ => fun
  | [d1, d2, d3, d4, d5] => { results := [.lit (.bool true)], args := [d1, d2, d3, d4, d5] }
  | _ => none }
def fnExactTerminateRow : OpenClaim := { program := "ytgdldeggoflabaagreat", sum := "ef21d7782ce9cb8727143e3256fc015ad7fcdbf7dfc1926e9243a97139e4efd3", func := "loop.example/g00505/laws.FnExactTerminate", spec := "fnExactTerminate", apart := false }
def FnExactTerminateSaid : Prop := fnExactTerminateRow.holds Tryz.pinned (OpenSpec.ofChange fnExactTerminateSpec)

/-- ITS FALSE NEIGHBOUR: 'it returns false'. Refute it at one input. -/
def fnExactTerminateWrong : ChangeSpec := { name := "fnExactTerminate", fn := fun _ => fun
  | [d1, d2, d3, d4, d5] => { results := [.lit (.bool false)], args := [d1, d2, d3, d4, d5] }
  | _ => none }
def FnExactTerminateWrongFalsely : Prop := fnExactTerminateRow.holds Tryz.pinned (OpenSpec.ofChange fnExactTerminateWrong)

/- THE SECOND FORM. 'bulk': how many values and letters a reading holds, each counted each time it is reached (what is shared counts as often as it is met; a slice's spare places count too). A statement '..UptoSaid' is the law's where the arguments, and the package variables that the reading takes, are together of bulk at most 1048576: NARROWER than '..Said'. Prove '..Said' where nothing that the law and all that it calls make is longer than what came in: it says more and counts as full. Else prove '..UptoSaid'. A law counts once. -/
mutual
def uptoBulk {H : Type} : DataW H → Nat
  | .lit (.string bytes) => bytes.length + 1
  | .lit _ => 1
  | .nil => 1
  | .ptr d => uptoBulk d + 1
  | .slice elems spare => uptoBulkAll elems + uptoBulkAll spare + 1
  | .agg parts => uptoBulkAll parts + 1
  | .iface _ d => uptoBulk d + 1
  | .map entries => uptoBulkEntries entries + 1
  | .held _ => 1
def uptoBulkAll {H : Type} : List (DataW H) → Nat
  | [] => 0
  | d :: r => uptoBulk d + uptoBulkAll r
def uptoBulkEntries {H : Type} : List (Lit × DataW H) → Nat
  | [] => 0
  | x :: r => uptoBulkEntry x + uptoBulkEntries r
def uptoBulkEntry {H : Type} : Lit × DataW H → Nat
  | (.string bytes, d) => bytes.length + uptoBulk d + 1
  | (_, d) => uptoBulk d + 1
 end
def uptoSmall : (H : Type) → List (DataW H) → Bool := fun _ ds => decide (uptoBulkAll ds ≤ 1048576)
def OpenSpec.upto (s : _root_.Go.ChangeSpec) : _root_.Go.OpenSpec := { _root_.Go.OpenSpec.ofChange s with cond := some uptoSmall }

/-- 'laws.FnExactEgressCandidates', WHERE WHAT IT READS IS OF BULK AT MOST 1048576: true; the input reads as it did. -/
def fnExactEgressCandidatesUptoRow : OpenClaim := { program := "ytgdldeggoflabaagreat", sum := "ef21d7782ce9cb8727143e3256fc015ad7fcdbf7dfc1926e9243a97139e4efd3", func := "loop.example/g00505/laws.FnExactEgressCandidates", spec := "fnExactEgressCandidates", apart := false, narrowed := true }
def FnExactEgressCandidatesUptoSaid : Prop := fnExactEgressCandidatesUptoRow.holds Tryz.pinned (OpenSpec.upto fnExactEgressCandidatesSpec)

/-- 'laws.FnExactExtend', WHERE WHAT IT READS IS OF BULK AT MOST 1048576: true; the input reads as it did. -/
def fnExactExtendUptoRow : OpenClaim := { program := "ytgdldeggoflabaagreat", sum := "ef21d7782ce9cb8727143e3256fc015ad7fcdbf7dfc1926e9243a97139e4efd3", func := "loop.example/g00505/laws.FnExactExtend", spec := "fnExactExtend", apart := false, narrowed := true }
def FnExactExtendUptoSaid : Prop := fnExactExtendUptoRow.holds Tryz.pinned (OpenSpec.upto fnExactExtendSpec)

/-- 'laws.FnExactTerminate', WHERE WHAT IT READS IS OF BULK AT MOST 1048576: true; the input reads as it did. -/
def fnExactTerminateUptoRow : OpenClaim := { program := "ytgdldeggoflabaagreat", sum := "ef21d7782ce9cb8727143e3256fc015ad7fcdbf7dfc1926e9243a97139e4efd3", func := "loop.example/g00505/laws.FnExactTerminate", spec := "fnExactTerminate", apart := false, narrowed := true }
def FnExactTerminateUptoSaid : Prop := fnExactTerminateUptoRow.holds Tryz.pinned (OpenSpec.upto fnExactTerminateSpec)

end Rows
end Go.Proofs.YtgdldeggoflabaaGreat
