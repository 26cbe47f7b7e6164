/-
  No cell of these rows narrows 'for every input' (looked for: loops, veiled, ifaces, maps, wideKeys, modest, calm, conditions, laid).
  DERIVED. THE GIVEN ROWS OF THIS SEAT. 7 by the template 'for every input the law returns true; each argument reads behind the call as it read before'; 0 by the template 'total and deterministic' (their statements: YtikbgdnlpnjagaaTotals.lean).
  GIVEN WITH THE SEED: the statements are not yours to turn. If you find one false, say at which input.
  Laid BY PROGRAM, IN A SANDBOX (cutbox-rows.mjs): the forced cells as the released guide's own fill.sh prints them over the translation 353c6ae58cc44388… (all of the seat's roots in one cut). By AI agents, Wed Nov 11 2026. No macro, syntax, notation, axiom, sorry.
-/
import Derived.Test.YtikbgdnlpnjagaaChecked
import GoSem.Claim
import GoSem.ClaimJoined
import GoSem.ClaimMapViews
import Derived.JoinedTies
import Derived.KernelRfl
namespace Go.Proofs.Ytikbgdnlpnjagaa
/- THE CELL 'sum', in the pinned program and in every row, IS THE sha256 OF THE DUMP (.gsa) THAT YtikbgdnlpnjagaaProg.lean LOADS. Nothing in Lean hashes anything: it is a label: what it is worth is what the hold of that sum in a sandbox is worth. -/
noncomputable def Try.pinned : Pinned := { name := "ytikbgdnlpnjagaa", sum := "353c6ae58cc4438857e7e2bf03591cb326b38f8780b180de77532de2b3881b60", checked := Try.checked }
namespace Rows
def none {H : Type} : Left H := { results := [], args := [] }

/-- 'laws.FnExactEqualHops': WHATEVER THE INPUT: true; the input reads as it did. -/
def fnExactEqualHopsSpec : ChangeSpec := { name := "fnExactEqualHops", fn := fun _ => fun
  | [d1, d2] => { results := [.lit (.bool true)], args := [d1, d2] }
  | _ => none }
def fnExactEqualHopsRow : OpenClaim := { program := "ytikbgdnlpnjagaa", sum := "353c6ae58cc4438857e7e2bf03591cb326b38f8780b180de77532de2b3881b60", func := "loop.example/g00505/laws.FnExactEqualHops", spec := "fnExactEqualHops", apart := false }
def FnExactEqualHopsSaid : Prop := fnExactEqualHopsRow.holds Try.pinned (OpenSpec.ofChange fnExactEqualHopsSpec)

/-- ITS FALSE NEIGHBOUR: 'it returns false'. Refute it at one input. -/
def fnExactEqualHopsWrong : ChangeSpec := { name := "fnExactEqualHops", fn := fun _ => fun
  | [d1, d2] => { results := [.lit (.bool false)], args := [d1, d2] }
  | _ => none }
def FnExactEqualHopsWrongFalsely : Prop := fnExactEqualHopsRow.holds Try.pinned (OpenSpec.ofChange fnExactEqualHopsWrong)

/-- 'laws.FnExactHopValidAt': WHATEVER THE INPUT: true; the input reads as it did. -/
def fnExactHopValidAtSpec : ChangeSpec := { name := "fnExactHopValidAt", fn := fun _ => fun
  | [d1, d2] => { results := [.lit (.bool true)], args := [d1, d2] }
  | _ => none }
def fnExactHopValidAtRow : OpenClaim := { program := "ytikbgdnlpnjagaa", sum := "353c6ae58cc4438857e7e2bf03591cb326b38f8780b180de77532de2b3881b60", func := "loop.example/g00505/laws.FnExactHopValidAt", spec := "fnExactHopValidAt", apart := false }
def FnExactHopValidAtSaid : Prop := fnExactHopValidAtRow.holds Try.pinned (OpenSpec.ofChange fnExactHopValidAtSpec)

/-- ITS FALSE NEIGHBOUR: 'it returns false'. Refute it at one input. -/
def fnExactHopValidAtWrong : ChangeSpec := { name := "fnExactHopValidAt", fn := fun _ => fun
  | [d1, d2] => { results := [.lit (.bool false)], args := [d1, d2] }
  | _ => none }
def FnExactHopValidAtWrongFalsely : Prop := fnExactHopValidAtRow.holds Try.pinned (OpenSpec.ofChange fnExactHopValidAtWrong)

/-- 'laws.FnExactDefaultPolicy': WHATEVER THE INPUT: true; the input reads as it did. -/
def fnExactDefaultPolicySpec : ChangeSpec := { name := "fnExactDefaultPolicy", fn := fun _ => fun
  | [] => { results := [.lit (.bool true)], args := [] }
  | _ => none }
def fnExactDefaultPolicyRow : OpenClaim := { program := "ytikbgdnlpnjagaa", sum := "353c6ae58cc4438857e7e2bf03591cb326b38f8780b180de77532de2b3881b60", func := "loop.example/g00505/laws.FnExactDefaultPolicy", spec := "fnExactDefaultPolicy", apart := false }
def FnExactDefaultPolicySaid : Prop := fnExactDefaultPolicyRow.holds Try.pinned (OpenSpec.ofChange fnExactDefaultPolicySpec)

/-- ITS FALSE NEIGHBOUR: 'it returns false'. Refute it at one input. -/
def fnExactDefaultPolicyWrong : ChangeSpec := { name := "fnExactDefaultPolicy", fn := fun _ => fun
  | [] => { results := [.lit (.bool false)], args := [] }
  | _ => none }
def FnExactDefaultPolicyWrongFalsely : Prop := fnExactDefaultPolicyRow.holds Try.pinned (OpenSpec.ofChange fnExactDefaultPolicyWrong)

/-- 'laws.FnExactExpiryFor': WHATEVER THE INPUT: true; the input reads as it did. -/
def fnExactExpiryForSpec : ChangeSpec := { name := "fnExactExpiryFor", fn := fun _ => fun
  | [d1, d2] => { results := [.lit (.bool true)], args := [d1, d2] }
  | _ => none }
def fnExactExpiryForRow : OpenClaim := { program := "ytikbgdnlpnjagaa", sum := "353c6ae58cc4438857e7e2bf03591cb326b38f8780b180de77532de2b3881b60", func := "loop.example/g00505/laws.FnExactExpiryFor", spec := "fnExactExpiryFor", apart := false }
def FnExactExpiryForSaid : Prop := fnExactExpiryForRow.holds Try.pinned (OpenSpec.ofChange fnExactExpiryForSpec)

/-- ITS FALSE NEIGHBOUR: 'it returns false'. Refute it at one input. -/
def fnExactExpiryForWrong : ChangeSpec := { name := "fnExactExpiryFor", fn := fun _ => fun
  | [d1, d2] => { results := [.lit (.bool false)], args := [d1, d2] }
  | _ => none }
def FnExactExpiryForWrongFalsely : Prop := fnExactExpiryForRow.holds Try.pinned (OpenSpec.ofChange fnExactExpiryForWrong)

/-- 'laws.FnExactValidPolicy': WHATEVER THE INPUT: true; the input reads as it did. -/
def fnExactValidPolicySpec : ChangeSpec := { name := "fnExactValidPolicy", fn := fun _ => fun
  | [d] => { results := [.lit (.bool true)], args := [d] }
  | _ => none }
def fnExactValidPolicyRow : OpenClaim := { program := "ytikbgdnlpnjagaa", sum := "353c6ae58cc4438857e7e2bf03591cb326b38f8780b180de77532de2b3881b60", func := "loop.example/g00505/laws.FnExactValidPolicy", spec := "fnExactValidPolicy", apart := false }
def FnExactValidPolicySaid : Prop := fnExactValidPolicyRow.holds Try.pinned (OpenSpec.ofChange fnExactValidPolicySpec)

/-- ITS FALSE NEIGHBOUR: 'it returns false'. Refute it at one input. -/
def fnExactValidPolicyWrong : ChangeSpec := { name := "fnExactValidPolicy", fn := fun _ => fun
  | [d] => { results := [.lit (.bool false)], args := [d] }
  | _ => none }
def FnExactValidPolicyWrongFalsely : Prop := fnExactValidPolicyRow.holds Try.pinned (OpenSpec.ofChange fnExactValidPolicyWrong)

/-- 'laws.FnExactValidHop': WHATEVER THE INPUT: true; the input reads as it did. -/
def fnExactValidHopSpec : ChangeSpec := { name := "fnExactValidHop", fn := fun _ => fun
  | [d] => { results := [.lit (.bool true)], args := [d] }
  | _ => none }
def fnExactValidHopRow : OpenClaim := { program := "ytikbgdnlpnjagaa", sum := "353c6ae58cc4438857e7e2bf03591cb326b38f8780b180de77532de2b3881b60", func := "loop.example/g00505/laws.FnExactValidHop", spec := "fnExactValidHop", apart := false }
def FnExactValidHopSaid : Prop := fnExactValidHopRow.holds Try.pinned (OpenSpec.ofChange fnExactValidHopSpec)

/-- ITS FALSE NEIGHBOUR: 'it returns false'. Refute it at one input. -/
def fnExactValidHopWrong : ChangeSpec := { name := "fnExactValidHop", fn := fun _ => fun
  | [d] => { results := [.lit (.bool false)], args := [d] }
  | _ => none }
def FnExactValidHopWrongFalsely : Prop := fnExactValidHopRow.holds Try.pinned (OpenSpec.ofChange fnExactValidHopWrong)

/-- 'laws.FnExactStricter': WHATEVER THE INPUT: true; the input reads as it did. -/
def fnExactStricterSpec : ChangeSpec := { name := "fnExactStricter", fn := fun _ => fun
  | [d1, d2] => { results := [.lit (.bool true)], args := [d1, d2] }
  | _ => none }
def fnExactStricterRow : OpenClaim := { program := "ytikbgdnlpnjagaa", sum := "353c6ae58cc4438857e7e2bf03591cb326b38f8780b180de77532de2b3881b60", func := "loop.example/g00505/laws.FnExactStricter", spec := "fnExactStricter", apart := false }
def FnExactStricterSaid : Prop := fnExactStricterRow.holds Try.pinned (OpenSpec.ofChange fnExactStricterSpec)

/-- ITS FALSE NEIGHBOUR: 'it returns false'. Refute it at one input. -/
def fnExactStricterWrong : ChangeSpec := { name := "fnExactStricter", fn := fun _ => fun
  | [d1, d2] => { results := [.lit (.bool false)], args := [d1, d2] }
  | _ => none }
def FnExactStricterWrongFalsely : Prop := fnExactStricterRow.holds Try.pinned (OpenSpec.ofChange fnExactStricterWrong)

/- THE SECOND FORM. 'bulk': how many values and letters a reading holds, each counted each time it is reached (what is shared counts as often as it is met; a slice's spare places count too). A statement '..UptoSaid' is the law's where the arguments, and the package variables that the reading takes, are together of bulk at most 1048576: NARROWER than '..Said'. Prove '..Said' where nothing that the law and all that it calls make is longer than what came in: it says more and counts as full. Else prove '..UptoSaid'. A law counts once. -/
mutual
def uptoBulk {H : Type} : DataW H → Nat
  | .lit (.string bytes) => bytes.length + 1
  | .lit _ => 1
  | .nil => 1
  | .ptr d => uptoBulk d + 1
  | .slice elems spare => uptoBulkAll elems + uptoBulkAll spare + 1
  | .agg parts => uptoBulkAll parts + 1
  | .iface _ d => uptoBulk d + 1
  | .map entries => uptoBulkEntries entries + 1
  | .held _ => 1
def uptoBulkAll {H : Type} : List (DataW H) → Nat
  | [] => 0
  | d :: r => uptoBulk d + uptoBulkAll r
def uptoBulkEntries {H : Type} : List (Lit × DataW H) → Nat
  | [] => 0
  | x :: r => uptoBulkEntry x + uptoBulkEntries r
def uptoBulkEntry {H : Type} : Lit × DataW H → Nat
  | (.string bytes, d) => bytes.length + uptoBulk d + 1
  | (_, d) => uptoBulk d + 1
 end
def uptoSmall : (H : Type) → List (DataW H) → Bool := fun _ ds => decide (uptoBulkAll ds ≤ 1048576)
def OpenSpec.upto (s : _root_.Go.ChangeSpec) : _root_.Go.OpenSpec := { _root_.Go.OpenSpec.ofChange s with cond := some uptoSmall }

/-- 'laws.FnExactEqualHops', WHERE WHAT IT READS IS OF BULK AT MOST 1048576: true; the input reads as it did. -/
def fnExactEqualHopsUptoRow : OpenClaim := { program := "ytikbgdnlpnjagaa", sum := "353c6ae58cc4438857e7e2bf03591cb326b38f8780b180de77532de2b3881b60", func := "loop.example/g00505/laws.FnExactEqualHops", spec := "fnExactEqualHops", apart := false, narrowed := true }
def FnExactEqualHopsUptoSaid : Prop := fnExactEqualHopsUptoRow.holds Try.pinned (OpenSpec.upto fnExactEqualHopsSpec)

/-- 'laws.FnExactHopValidAt', WHERE WHAT IT READS IS OF BULK AT MOST 1048576: true; the input reads as it did. -/
def fnExactHopValidAtUptoRow : OpenClaim := { program := "ytikbgdnlpnjagaa", sum := "353c6ae58cc4438857e7e2bf03591cb326b38f8780b180de77532de2b3881b60", func := "loop.example/g00505/laws.FnExactHopValidAt", spec := "fnExactHopValidAt", apart := false, narrowed := true }
def FnExactHopValidAtUptoSaid : Prop := fnExactHopValidAtUptoRow.holds Try.pinned (OpenSpec.upto fnExactHopValidAtSpec)

/-- 'laws.FnExactDefaultPolicy', WHERE WHAT IT READS IS OF BULK AT MOST 1048576: true; the input reads as it did. -/
def fnExactDefaultPolicyUptoRow : OpenClaim := { program := "ytikbgdnlpnjagaa", sum := "353c6ae58cc4438857e7e2bf03591cb326b38f8780b180de77532de2b3881b60", func := "loop.example/g00505/laws.FnExactDefaultPolicy", spec := "fnExactDefaultPolicy", apart := false, narrowed := true }
def FnExactDefaultPolicyUptoSaid : Prop := fnExactDefaultPolicyUptoRow.holds Try.pinned (OpenSpec.upto fnExactDefaultPolicySpec)

/-- 'laws.FnExactExpiryFor', WHERE WHAT IT READS IS OF BULK AT MOST 1048576: true; the input reads as it did. -/
def fnExactExpiryForUptoRow : OpenClaim := { program := "ytikbgdnlpnjagaa", sum := "353c6ae58cc4438857e7e2bf03591cb326b38f8780b180de77532de2b3881b60", func := "loop.example/g00505/laws.FnExactExpiryFor", spec := "fnExactExpiryFor", apart := false, narrowed := true }
def FnExactExpiryForUptoSaid : Prop := fnExactExpiryForUptoRow.holds Try.pinned (OpenSpec.upto fnExactExpiryForSpec)

/-- 'laws.FnExactValidPolicy', WHERE WHAT IT READS IS OF BULK AT MOST 1048576: true; the input reads as it did. -/
def fnExactValidPolicyUptoRow : OpenClaim := { program := "ytikbgdnlpnjagaa", sum := "353c6ae58cc4438857e7e2bf03591cb326b38f8780b180de77532de2b3881b60", func := "loop.example/g00505/laws.FnExactValidPolicy", spec := "fnExactValidPolicy", apart := false, narrowed := true }
def FnExactValidPolicyUptoSaid : Prop := fnExactValidPolicyUptoRow.holds Try.pinned (OpenSpec.upto fnExactValidPolicySpec)

/-- 'laws.FnExactValidHop', WHERE WHAT IT READS IS OF BULK AT MOST 1048576: true; the input reads as it did. -/
def fnExactValidHopUptoRow : OpenClaim := { program := "ytikbgdnlpnjagaa", sum := "353c6ae58cc4438857e7e2bf03591cb326b38f8780b180de77532de2b3881b60", func := "loop.example/g00505/laws.FnExactValidHop", spec := "fnExactValidHop", apart := false, narrowed := true }
def FnExactValidHopUptoSaid : Prop := fnExactValidHopUptoRow.holds Try.pinned (OpenSpec.upto fnExactValidHopSpec)

/-- 'laws.FnExactStricter', WHERE WHAT IT READS IS OF BULK AT MOST 1048576: true; the input reads as it did. -/
def fnExactStricterUptoRow : OpenClaim := { program := "ytikbgdnlpnjagaa", sum := "353c6ae58cc4438857e7e2bf03591cb326b38f8780b180de77532de2b3881b60", func := "loop.example/g00505/laws.FnExactStricter", spec := "fnExactStricter", apart := false, narrowed := true }
def FnExactStricterUptoSaid : Prop := fnExactStricterUptoRow.holds Try.pinned (OpenSpec.upto fnExactStricterSpec)

end Rows
end Go.Proofs.Ytikbgdnlpnjagaa
