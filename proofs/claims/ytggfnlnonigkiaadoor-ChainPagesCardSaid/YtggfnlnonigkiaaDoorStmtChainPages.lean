/- What is said here: the one pure statement of the law ChainPages. Nothing is proved. -/
import Derived.Test.YtggfnlnonigkiaaDoorFits
import Derived.Test.YtggfnlnonigkiaaDoorP10
namespace Go.Proofs.YtggfnlnonigkiaaDoor.P
open Go.RowKit Go.Proofs.YtggfnlnonigkiaaDoorW.PrintWords Go.Proofs.YtggfnlnonigkiaaDoorW.PrintLast Go.Proofs.YtggfnlnonigkiaaDoorW.PrintMore
def withylaw12_ChainPages.Pure : Prop := ∀ (x0 : Int) (x1 : Int) (x2 : Int), ((Lit.int .u32 x0).wf = true) → ((Lit.int .u32 x1).wf = true) → ((Lit.int .i64 x2).wf = true) → ∃ k, withylaw12_ChainPages.f k x0 x1 x2 = some true
end Go.Proofs.YtggfnlnonigkiaaDoor.P
