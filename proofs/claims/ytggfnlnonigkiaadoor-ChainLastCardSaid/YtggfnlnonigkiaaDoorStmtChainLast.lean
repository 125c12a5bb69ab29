/- What is said here: the one pure statement of the law ChainLast. Nothing is proved. -/
import Derived.Test.YtggfnlnonigkiaaDoorFits
import Derived.Test.YtggfnlnonigkiaaDoorP11
namespace Go.Proofs.YtggfnlnonigkiaaDoor.P
open Go.RowKit Go.Proofs.YtggfnlnonigkiaaDoorW.PrintWords Go.Proofs.YtggfnlnonigkiaaDoorW.PrintLast Go.Proofs.YtggfnlnonigkiaaDoorW.PrintMore
def withylaw12_ChainLast.Pure : Prop := ∀ (x0 : Int) (x1 : Int) (x2 : S43), ((Lit.int .i64 x0).wf = true) → ((Lit.int .u16 x1).wf = true) → (fit43 x2) → ∃ k, withylaw12_ChainLast.f k x0 x1 x2.f0 x2.f1 = some true
end Go.Proofs.YtggfnlnonigkiaaDoor.P
