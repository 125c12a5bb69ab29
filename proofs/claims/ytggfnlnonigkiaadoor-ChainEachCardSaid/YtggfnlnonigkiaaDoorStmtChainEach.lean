/- What is said here: the one pure statement of the law ChainEach. Nothing is proved. -/
import Derived.Test.YtggfnlnonigkiaaDoorFits
import Derived.Test.YtggfnlnonigkiaaDoorP11
namespace Go.Proofs.YtggfnlnonigkiaaDoor.P
open Go.RowKit Go.Proofs.YtggfnlnonigkiaaDoorW.PrintWords Go.Proofs.YtggfnlnonigkiaaDoorW.PrintLast Go.Proofs.YtggfnlnonigkiaaDoorW.PrintMore
def withylaw12_ChainEach.Pure : Prop := ∀ (x0 : S23) (x1 : Int), (fit23 x0) → ((Lit.int .i64 x1).wf = true) → ∃ k, withylaw12_ChainEach.f k x0.f0 x0.f1 x0.f2 x1 = some true
end Go.Proofs.YtggfnlnonigkiaaDoor.P
