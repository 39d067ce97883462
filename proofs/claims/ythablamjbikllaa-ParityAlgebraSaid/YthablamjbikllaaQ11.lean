-- Written by qprint.py (a program of this session) over the program of the kit that prints contracts. Not trusted: Lean checks it.
import Derived.Test.YthablamjbikllaaQ0
namespace Go.Proofs.Ythablamjbikllaa.Q
open Go.RowKit Go.Proofs.YthablamjbikllaaW.PrintWords Go.Proofs.YthablamjbikllaaW.PrintLast Go.Proofs.YthablamjbikllaaW.PrintMore
attribute [local go_sem] max2_int min2_int max_two min_two max_three min_three max_four min_four   -- for this text's walks alone
set_option linter.unusedVariables false
set_option linter.unusedSimpArgs false

/-! ### fringelaw45_alive: function 25 (by hand) -/
def fringelaw45_alive.f : Option Bool := some true
theorem fringelaw45_alive.calls  (r : Bool) (w : World) (h : fringelaw45_alive.f  = some r) :
  Calls Try.prog 25 #[] w fun e w' => e = .returned (.bool r) ∧ Below w.heap.size w w' := by
 obtain rfl := Option.some.inj h
 exact alive_true w

end Go.Proofs.Ythablamjbikllaa.Q
