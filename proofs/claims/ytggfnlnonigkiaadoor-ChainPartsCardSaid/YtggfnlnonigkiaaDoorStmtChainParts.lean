/- What is said here: the one pure statement of the law ChainParts. Nothing is proved. -/
import Derived.Test.YtggfnlnonigkiaaDoorFits
import Derived.Test.YtggfnlnonigkiaaDoorP10
namespace Go.Proofs.YtggfnlnonigkiaaDoor.P
open Go.RowKit Go.Proofs.YtggfnlnonigkiaaDoorW.PrintWords Go.Proofs.YtggfnlnonigkiaaDoorW.PrintLast Go.Proofs.YtggfnlnonigkiaaDoorW.PrintMore
def withylaw12_ChainParts.Pure : Prop := ∀ (x0 : ByteArray) (x1 : Int), (x0.size ≤ 140737488351232) → ((Lit.int .i64 x1).wf = true) → ∃ k, withylaw12_ChainParts.f k x0 x1 = some true
end Go.Proofs.YtggfnlnonigkiaaDoor.P
