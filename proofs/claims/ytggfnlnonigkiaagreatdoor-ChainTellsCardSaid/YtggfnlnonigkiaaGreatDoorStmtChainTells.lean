/- What is said here: the one pure statement of the law ChainTells. Nothing is proved. -/
import Derived.Test.YtggfnlnonigkiaaGreatDoorFits
import Derived.Test.YtggfnlnonigkiaaGreatDoorP15
namespace Go.Proofs.YtggfnlnonigkiaaGreatDoor.P
open Go.RowKit Go.Proofs.YtggfnlnonigkiaaGreatDoorW.PrintWords Go.Proofs.YtggfnlnonigkiaaGreatDoorW.PrintLast Go.Proofs.YtggfnlnonigkiaaGreatDoorW.PrintMore
def withylaw12_ChainTells.Pure : Prop := ∀ (x0 : S23) (x1 : Int) (x2 : S25), (fit23 x0) → ((Lit.int .i64 x1).wf = true) → (fit25 x2) → ∃ k, withylaw12_ChainTells.f k x0.f0 x0.f1 x0.f2 x1 x2.f0 x2.f1 x2.f2 = some true
end Go.Proofs.YtggfnlnonigkiaaGreatDoor.P
