-- Out of what print.sh wrote (35421559b90ae4d0a3588c463048766b98c2df88dd9212a6774a882060cdf62d): what this claim uses
import Derived.Test.YtfhblnbicnmndaaWWords
import Derived.Laws.StructEq

namespace Go.Proofs.YtfhblnbicnmndaaW.PrintWords
open Go.RowKit
section
variable {P : Program} {d : Nat} {xs ys : Array Value} {f : Field} {fs : List Field} {a b : Value} {r s : Bool} {w : World}
end
end Go.Proofs.YtfhblnbicnmndaaW.PrintWords
