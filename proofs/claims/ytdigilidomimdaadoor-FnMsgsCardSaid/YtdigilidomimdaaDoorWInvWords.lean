-- PRINTED BY print.sh 35421559b90ae4d0a3588c463048766b98c2df88dd9212a6774a882060cdf62d: not written by this session
-- Left short by this session's wip/tool/prune.py: what no text of this claim comes to is left out.
import Derived.Test.YtdigilidomimdaaDoorWInv
import Derived.Test.YtdigilidomimdaaDoorWFootNe
namespace Go.Proofs.YtdigilidomimdaaDoorW.PrintWords
open Go.RowKit
end Go.Proofs.YtdigilidomimdaaDoorW.PrintWords
namespace Go.Proofs.YtdigilidomimdaaDoorW.PrintLast
section
variable {ops : Array Oper} {a : Act} {o og : Oper} {g : Nat} {t : Tmp} {u : Bool}
end
end Go.Proofs.YtdigilidomimdaaDoorW.PrintLast
