/- What is said here: the one pure statement of the law KeyTells. Nothing is proved. -/
import Derived.Test.YthaicofleloplaaDoorFits
import Derived.Test.YthaicofleloplaaDoorP14
namespace Go.Proofs.YthaicofleloplaaDoor.P
open Go.RowKit Go.Proofs.YthaicofleloplaaDoorW.PrintWords Go.Proofs.YthaicofleloplaaDoorW.PrintLast Go.Proofs.YthaicofleloplaaDoorW.PrintMore
def withylaw04_KeyTells.Pure : Prop := ∀ (x0 : List (S51)) (x1 : List (S51)) (x2 : S24), (x0.length * 40 ≤ 140737488351232 ∧ x0.length ≤ 9223372036854775807 ∧ ∀ a_ ∈ x0, fit51 a_) → (x1.length * 40 ≤ 140737488351232 ∧ x1.length ≤ 9223372036854775807 ∧ ∀ a_ ∈ x1, fit51 a_) → (fit24 x2) → ∃ k, withylaw04_KeyTells.f k x0 x1 x2.f0 x2.f1 = some true
end Go.Proofs.YthaicofleloplaaDoor.P
