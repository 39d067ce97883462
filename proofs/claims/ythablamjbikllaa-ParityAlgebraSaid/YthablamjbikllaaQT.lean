/- The kinds of the arguments' types: what is read as data at a type is of its kind. -/
import Derived.Test.YthablamjbikllaaQ0
import Derived.Test.YthablamjbikllaaOpen
import Derived.KernelRfl
namespace Go.Proofs.Ythablamjbikllaa.Q
open Go.RowKit Go.Proofs.YthablamjbikllaaW.PrintWords Go.Proofs.Ythablamjbikllaa.Open
set_option maxRecDepth 100000
end Go.Proofs.Ythablamjbikllaa.Q
