/- The functions of this program, walked by the evaluator: part zb, 4. -/
import Derived.Test.YtmiclkgkfkcnoaaLy1
import Derived.Test.YtmiclkgkfkcnoaaLD
namespace Go.Proofs.Ytmiclkgkfkcnoaa
open Go.RowKit
set_option linter.unusedSimpArgs false
set_option linter.unusedVariables false
set_option maxRecDepth 100000
set_option linter.defProp false
namespace GLzb4
def gx := And.intro (@hopRow.eq_1) (And.intro (@polRow.eq_1) (And.intro (@segRow.eq_1) (And.intro (@intRow.eq_1) (And.intro (@rowLen_ints) (And.intro (@rowLen_nil) (And.intro (@rowLen_cons) (And.intro (@rowLen_append) (And.intro (@lenL_app) (And.intro (@byteRow.eq_1) (And.intro (@rowLen_bytes) (And.intro (@bytesOf_map) (And.intro (@bytesOf_cons) (And.intro (@bytesOf_one) (And.intro (@rowLen_strs) (And.intro (@asRow.eq_1) (And.intro (@lkRow.eq_1) (And.intro (@tpRow.eq_1) (And.intro (@rowLen_hops) (And.intro (@rowLen_ases) (And.intro (@rowLen_links) (And.intro (@bcRow.eq_1) (And.intro (@rowLen_bcs) (@u8Row.eq_1)))))))))))))))))))))))
end GLzb4
open GLzb4
theorem l1BelowF_e (b : List UInt8) (zb : b.length ≤ 1048576) (i : Nat) (h : Int) (N : Nat) (hN : 0 < N) : ECall Try.prog 108 [.ptr 0 0 0, .int .i64 (N : Int)] [curE b i h] 1 (fun _ : _root_.Fin N × Nat × Int => True) (fun x => .int .i64 (x.1.val : Int)) (fun x => [curE b x.2.1 x.2.2]) := by
  refine ecall_imp (l1Below_e b zb i h (N : Int)) ?_
  rintro ⟨x, i', h'⟩ hx
  simp only at hx
  exact ⟨(⟨x, by omega⟩, i', h'), trivial, rfl, rfl⟩

end Go.Proofs.Ytmiclkgkfkcnoaa
