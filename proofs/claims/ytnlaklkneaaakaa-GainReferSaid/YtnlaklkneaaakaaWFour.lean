-- OUT OF WORDS PRINTED BY print.sh 35421559b90ae4d0a3588c463048766b98c2df88dd9212a6774a882060cdf62d: here trimmed to what the seat's texts name
import Derived.Test.YtnlaklkneaaakaaWTab
namespace Go.Proofs.YtnlaklkneaaakaaW.PrintLast
section
variable {P : Program} {ops : Array Oper} {Q : Exit → Act → World → Prop} {md : Region.Mode} {S : World → Prop} {ds : List Nat} {T : Bool × List (List Nat × List Nat)}
end
end Go.Proofs.YtnlaklkneaaakaaW.PrintLast
