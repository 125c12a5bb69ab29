/- What is said here: the one pure statement of the law SepTells. Nothing is proved. -/
import Derived.Test.YthflaiogollleaaFits
import Derived.Test.YthflaiogollleaaP7
namespace Go.Proofs.Ythflaiogollleaa.P
open Go.RowKit Go.Proofs.YthflaiogollleaaW.PrintWords Go.Proofs.YthflaiogollleaaW.PrintLast Go.Proofs.YthflaiogollleaaW.PrintMore
def withylaw05_SepTells.Pure : Prop := ∀ (x0 : ByteArray) (x1 : ByteArray) (x2 : List ByteArray), (x0.size ≤ 140737488351232) → (x1.size ≤ 140737488351232) → (x2.length * 16 ≤ 140737488351232 ∧ x2.length ≤ 9223372036854775807 ∧ ∀ a_ ∈ x2, a_.size ≤ 140737488351232) → ∃ k, withylaw05_SepTells.f k x0 x1 x2 = some true
end Go.Proofs.Ythflaiogollleaa.P
