/- What is said here: the one pure statement of the law ColTells. Nothing is proved. -/
import Derived.Test.YtjfgeppfkhaliaaDoorFits
import Derived.Test.YtjfgeppfkhaliaaDoorP7
namespace Go.Proofs.YtjfgeppfkhaliaaDoor.P
open Go.RowKit Go.Proofs.YtjfgeppfkhaliaaDoorW.PrintWords Go.Proofs.YtjfgeppfkhaliaaDoorW.PrintLast Go.Proofs.YtjfgeppfkhaliaaDoorW.PrintMore
def withylaw03_ColTells.Pure : Prop := ∀ (x0 : S24) (x1 : S24) (x2 : S26), (fit24 x0) → (fit24 x1) → (fit26 x2) → ∃ k, withylaw03_ColTells.f k x0.f0 x0.f1 x0.f2 x0.f3 x1.f0 x1.f1 x1.f2 x1.f3 x2.f0 x2.f1 = some true
end Go.Proofs.YtjfgeppfkhaliaaDoor.P
