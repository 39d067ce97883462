/- alive answers true: the machine for closed calls says so. -/
import Derived.Test.YthablamjbikllaaRunM
import Derived.Test.YthablamjbikllaaChecked
import Derived.KernelRfl
import Derived.WalkKit
import Derived.Below
namespace Go.Proofs.Ythablamjbikllaa.Q
open Go.RowKit
set_option maxRecDepth 1000000 in
theorem alive_says : Run.saysTrueB Try.prog (Run.baseOf Try.prog 30 100000) 25 100000 = true := by kernel_rfl
theorem alive_true (w : World) : Calls Try.prog 25 #[] w fun e w' => e = .returned (.bool true) ∧ Below w.heap.size w w' := Run.says_trueB (Run.base_ok 30 100000) alive_says w
end Go.Proofs.Ythablamjbikllaa.Q
