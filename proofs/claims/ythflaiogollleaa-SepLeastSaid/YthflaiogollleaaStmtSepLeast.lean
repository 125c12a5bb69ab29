/- What is said here: the one pure statement of the law SepLeast. Nothing is proved. -/
import Derived.Test.YthflaiogollleaaFits
import Derived.Test.YthflaiogollleaaP8
namespace Go.Proofs.Ythflaiogollleaa.P
open Go.RowKit Go.Proofs.YthflaiogollleaaW.PrintWords Go.Proofs.YthflaiogollleaaW.PrintLast Go.Proofs.YthflaiogollleaaW.PrintMore
def withylaw05_SepLeast.Pure : Prop := ∀ (x0 : ByteArray) (x1 : ByteArray), (x0.size ≤ 140737488351232) → (x1.size ≤ 140737488351232) → ∃ k, withylaw05_SepLeast.f k x0 x1 = some true
end Go.Proofs.Ythflaiogollleaa.P
