/- What is said here: the one pure statement of the law ColOnce. Nothing is proved. -/
import Derived.Test.YtjfgeppfkhaliaaDoorFits
import Derived.Test.YtjfgeppfkhaliaaDoorP15
namespace Go.Proofs.YtjfgeppfkhaliaaDoor.P
open Go.RowKit Go.Proofs.YtjfgeppfkhaliaaDoorW.PrintWords Go.Proofs.YtjfgeppfkhaliaaDoorW.PrintLast Go.Proofs.YtjfgeppfkhaliaaDoorW.PrintMore
def withylaw03_ColOnce.Pure : Prop := ∀ (x0 : ByteArray) (x1 : Int), (x0.size ≤ 140737488351232) → ((Lit.int .i64 x1).wf = true) → ∃ k, withylaw03_ColOnce.f k x0 x1 = some true
end Go.Proofs.YtjfgeppfkhaliaaDoor.P
