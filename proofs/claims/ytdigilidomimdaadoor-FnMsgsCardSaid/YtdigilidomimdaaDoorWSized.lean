-- PRINTED BY print.sh 35421559b90ae4d0a3588c463048766b98c2df88dd9212a6774a882060cdf62d: not written by this session
-- Left short by this session's wip/tool/prune.py: what no text of this claim comes to is left out.
import Derived.SizedLaws
import Derived.ChangeSlices
namespace Go.Proofs.YtdigilidomimdaaDoorW.PrintWords
open Go.ChangeShapes Go.WideShapes
end Go.Proofs.YtdigilidomimdaaDoorW.PrintWords
