-- PRINTED BY print.sh 35421559b90ae4d0a3588c463048766b98c2df88dd9212a6774a882060cdf62d: not written by this session
import Derived.Test.YtjfgeppfkhaliaaDoorWInv
import Derived.Test.YtjfgeppfkhaliaaDoorWFootNe
namespace Go.Proofs.YtjfgeppfkhaliaaDoorW.PrintWords
open Go.RowKit
end Go.Proofs.YtjfgeppfkhaliaaDoorW.PrintWords
namespace Go.Proofs.YtjfgeppfkhaliaaDoorW.PrintLast
end Go.Proofs.YtjfgeppfkhaliaaDoorW.PrintLast
