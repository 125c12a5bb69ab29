/- What is said here: the one pure statement of the law HeadSpare. Nothing is proved. -/
import Derived.Test.YtnfnmjjdcaphjaaFits
import Derived.Test.YtnfnmjjdcaphjaaP21
namespace Go.Proofs.Ytnfnmjjdcaphjaa.P
open Go.RowKit Go.Proofs.YtnfnmjjdcaphjaaW.PrintWords Go.Proofs.YtnfnmjjdcaphjaaW.PrintLast Go.Proofs.YtnfnmjjdcaphjaaW.PrintMore
def withylaw07_HeadSpare.Pure : Prop := ∀ (x0 : S23) (x1 : S25) (x2 : Int), (fit23 x0) → (fit25 x1) → ((Lit.int .u8 x2).wf = true) → ∃ k, withylaw07_HeadSpare.f k x0.f0 x0.f1 x0.f2 x0.f3 x0.f4 x1.f0 x1.f1 x2 = some true
end Go.Proofs.Ytnfnmjjdcaphjaa.P
