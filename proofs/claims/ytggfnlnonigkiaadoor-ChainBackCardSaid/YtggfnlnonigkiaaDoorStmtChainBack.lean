/- What is said here: the one pure statement of the law ChainBack. Nothing is proved. -/
import Derived.Test.YtggfnlnonigkiaaDoorFits
import Derived.Test.YtggfnlnonigkiaaDoorP10
namespace Go.Proofs.YtggfnlnonigkiaaDoor.P
open Go.RowKit Go.Proofs.YtggfnlnonigkiaaDoorW.PrintWords Go.Proofs.YtggfnlnonigkiaaDoorW.PrintLast Go.Proofs.YtggfnlnonigkiaaDoorW.PrintMore
def withylaw12_ChainBack.Pure : Prop := ∀ (x0 : S23) (x1 : Int) (x2 : ByteArray), (fit23 x0) → ((Lit.int .i64 x1).wf = true) → (x2.size ≤ 140737488351232) → ∃ k, withylaw12_ChainBack.f k x0.f0 x0.f1 x0.f2 x1 x2 = some true
end Go.Proofs.YtggfnlnonigkiaaDoor.P
