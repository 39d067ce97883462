-- OUT OF WORDS PRINTED BY print.sh 35421559b90ae4d0a3588c463048766b98c2df88dd9212a6774a882060cdf62d: here trimmed to what the seat's texts name
import Derived.Test.YtnlaklkneaaakaaWInv
import Derived.Test.YtnlaklkneaaakaaWFootNe
namespace Go.Proofs.YtnlaklkneaaakaaW.PrintWords
open Go.RowKit
end Go.Proofs.YtnlaklkneaaakaaW.PrintWords
namespace Go.Proofs.YtnlaklkneaaakaaW.PrintLast
section
variable {ops : Array Oper} {a : Act} {o og : Oper} {g : Nat} {t : Tmp} {u : Bool}
end
end Go.Proofs.YtnlaklkneaaakaaW.PrintLast
