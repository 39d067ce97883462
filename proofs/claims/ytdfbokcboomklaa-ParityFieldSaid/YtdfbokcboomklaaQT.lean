/- The kinds of the arguments' types: what is read as data at a type is of its kind. -/
import Derived.Test.YtdfbokcboomklaaQ0
import Derived.Test.YtdfbokcboomklaaOpen
import Derived.KernelRfl
namespace Go.Proofs.Ytdfbokcboomklaa.Q
open Go.RowKit Go.Proofs.YtdfbokcboomklaaW.PrintWords Go.Proofs.Ytdfbokcboomklaa.Open
set_option maxRecDepth 100000
end Go.Proofs.Ytdfbokcboomklaa.Q
