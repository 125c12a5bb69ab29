/- What is said here: the one pure statement of the law KeyOnce. Nothing is proved. -/
import Derived.Test.YthaicofleloplaaDoorFits
import Derived.Test.YthaicofleloplaaDoorP14
namespace Go.Proofs.YthaicofleloplaaDoor.P
open Go.RowKit Go.Proofs.YthaicofleloplaaDoorW.PrintWords Go.Proofs.YthaicofleloplaaDoorW.PrintLast Go.Proofs.YthaicofleloplaaDoorW.PrintMore
def withylaw04_KeyOnce.Pure : Prop := ∀ (x0 : ByteArray), (x0.size ≤ 140737488351232) → ∃ k, withylaw04_KeyOnce.f k x0 = some true
end Go.Proofs.YthaicofleloplaaDoor.P
