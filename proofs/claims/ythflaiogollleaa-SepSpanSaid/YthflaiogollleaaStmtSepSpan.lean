/- What is said here: the one pure statement of the law SepSpan. Nothing is proved. -/
import Derived.Test.YthflaiogollleaaFits
import Derived.Test.YthflaiogollleaaP11
namespace Go.Proofs.Ythflaiogollleaa.P
open Go.RowKit Go.Proofs.YthflaiogollleaaW.PrintWords Go.Proofs.YthflaiogollleaaW.PrintLast Go.Proofs.YthflaiogollleaaW.PrintMore
def withylaw05_SepSpan.Pure : Prop := ∀ (x0 : List ByteArray) (x1 : ByteArray), (x0.length * 16 ≤ 140737488351232 ∧ x0.length ≤ 9223372036854775807 ∧ ∀ a_ ∈ x0, a_.size ≤ 140737488351232) → (x1.size ≤ 140737488351232) → ∃ k, withylaw05_SepSpan.f k x0 x1 = some true
end Go.Proofs.Ythflaiogollleaa.P
