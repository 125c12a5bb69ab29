/- What is said here: the one pure statement of the law HeadSides. Nothing is proved. -/
import Derived.Test.YtnfnmjjdcaphjaaFits
import Derived.Test.YtnfnmjjdcaphjaaP20
namespace Go.Proofs.Ytnfnmjjdcaphjaa.P
open Go.RowKit Go.Proofs.YtnfnmjjdcaphjaaW.PrintWords Go.Proofs.YtnfnmjjdcaphjaaW.PrintLast Go.Proofs.YtnfnmjjdcaphjaaW.PrintMore
def withylaw07_HeadSides.Pure : Prop := ∀ (x0 : S23) (x1 : S23) (x2 : S51), (fit23 x0) → (fit23 x1) → (fit51 x2) → ∃ k, withylaw07_HeadSides.f k x0.f0 x0.f1 x0.f2 x0.f3 x0.f4 x1.f0 x1.f1 x1.f2 x1.f3 x1.f4 x2.f0 x2.f1 = some true
end Go.Proofs.Ytnfnmjjdcaphjaa.P
