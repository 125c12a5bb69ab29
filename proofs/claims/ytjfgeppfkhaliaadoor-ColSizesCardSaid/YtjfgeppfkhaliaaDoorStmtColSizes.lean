/- What is said here: the one pure statement of the law ColSizes. Nothing is proved. -/
import Derived.Test.YtjfgeppfkhaliaaDoorFits
import Derived.Test.YtjfgeppfkhaliaaDoorP17
namespace Go.Proofs.YtjfgeppfkhaliaaDoor.P
open Go.RowKit Go.Proofs.YtjfgeppfkhaliaaDoorW.PrintWords Go.Proofs.YtjfgeppfkhaliaaDoorW.PrintLast Go.Proofs.YtjfgeppfkhaliaaDoorW.PrintMore
def withylaw03_ColSizes.Pure : Prop := ∀ (x0 : S24), (fit24 x0) → ∃ k, withylaw03_ColSizes.f k x0.f0 x0.f1 x0.f2 x0.f3 = some true
end Go.Proofs.YtjfgeppfkhaliaaDoor.P
