-- Out of what print.sh wrote (35421559b90ae4d0a3588c463048766b98c2df88dd9212a6774a882060cdf62d): what this claim uses
import Derived.Test.YtggenhomnbnodaaWInv
import Derived.Test.YtggenhomnbnodaaWFootNe
namespace Go.Proofs.YtggenhomnbnodaaW.PrintWords
open Go.RowKit
end Go.Proofs.YtggenhomnbnodaaW.PrintWords
namespace Go.Proofs.YtggenhomnbnodaaW.PrintLast
section
variable {ops : Array Oper} {a : Act} {o og : Oper} {g : Nat} {t : Tmp} {u : Bool}
end
end Go.Proofs.YtggenhomnbnodaaW.PrintLast
