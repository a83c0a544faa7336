-- PRINTED BY print.sh 35421559b90ae4d0a3588c463048766b98c2df88dd9212a6774a882060cdf62d: not written by this session
import Derived.Test.YtaickhdobnbnoaaDoorV1WInv
import Derived.Test.YtaickhdobnbnoaaDoorV1WFootNe
namespace Go.Proofs.YtaickhdobnbnoaaDoorW.PrintWords
open Go.RowKit
end Go.Proofs.YtaickhdobnbnoaaDoorW.PrintWords
namespace Go.Proofs.YtaickhdobnbnoaaDoorW.PrintLast
section
variable {ops : Array Oper} {a : Act} {o og : Oper} {g : Nat} {t : Tmp} {u : Bool}
end
end Go.Proofs.YtaickhdobnbnoaaDoorW.PrintLast
