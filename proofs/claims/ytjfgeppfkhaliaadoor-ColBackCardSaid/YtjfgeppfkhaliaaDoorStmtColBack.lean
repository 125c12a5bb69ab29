/- What is said here: the one pure statement of the law ColBack. Nothing is proved. -/
import Derived.Test.YtjfgeppfkhaliaaDoorFits
import Derived.Test.YtjfgeppfkhaliaaDoorP15
namespace Go.Proofs.YtjfgeppfkhaliaaDoor.P
open Go.RowKit Go.Proofs.YtjfgeppfkhaliaaDoorW.PrintWords Go.Proofs.YtjfgeppfkhaliaaDoorW.PrintLast Go.Proofs.YtjfgeppfkhaliaaDoorW.PrintMore
def withylaw03_ColBack.Pure : Prop := ∀ (x0 : S24) (x1 : S44) (x2 : Int), (fit24 x0) → (fit44 x1) → ((Lit.int .u8 x2).wf = true) → ∃ k, withylaw03_ColBack.f k x0.f0 x0.f1 x0.f2 x0.f3 x1.f0 x1.f1 x2 = some true
end Go.Proofs.YtjfgeppfkhaliaaDoor.P
