/- What is said here: the one pure statement of the law SepThree. Nothing is proved. -/
import Derived.Test.YthflaiogollleaaFits
import Derived.Test.YthflaiogollleaaP12
namespace Go.Proofs.Ythflaiogollleaa.P
open Go.RowKit Go.Proofs.YthflaiogollleaaW.PrintWords Go.Proofs.YthflaiogollleaaW.PrintLast Go.Proofs.YthflaiogollleaaW.PrintMore
def withylaw05_SepThree.Pure : Prop := ∀ (x0 : S39), (fit39 x0) → ∃ k, withylaw05_SepThree.f k x0.f0 x0.f1 x0.f2 = some true
end Go.Proofs.Ythflaiogollleaa.P
