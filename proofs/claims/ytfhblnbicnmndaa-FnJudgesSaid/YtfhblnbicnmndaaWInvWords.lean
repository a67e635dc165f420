-- Out of what print.sh wrote (35421559b90ae4d0a3588c463048766b98c2df88dd9212a6774a882060cdf62d): what this claim uses
import Derived.Test.YtfhblnbicnmndaaWInv
import Derived.Test.YtfhblnbicnmndaaWFootNe
namespace Go.Proofs.YtfhblnbicnmndaaW.PrintWords
open Go.RowKit
end Go.Proofs.YtfhblnbicnmndaaW.PrintWords
namespace Go.Proofs.YtfhblnbicnmndaaW.PrintLast
section
variable {ops : Array Oper} {a : Act} {o og : Oper} {g : Nat} {t : Tmp} {u : Bool}
end
end Go.Proofs.YtfhblnbicnmndaaW.PrintLast
