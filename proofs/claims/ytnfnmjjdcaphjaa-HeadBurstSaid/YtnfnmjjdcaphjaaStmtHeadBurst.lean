/- What is said here: the one pure statement of the law HeadBurst. Nothing is proved. -/
import Derived.Test.YtnfnmjjdcaphjaaFits
import Derived.Test.YtnfnmjjdcaphjaaP8
namespace Go.Proofs.Ytnfnmjjdcaphjaa.P
open Go.RowKit Go.Proofs.YtnfnmjjdcaphjaaW.PrintWords Go.Proofs.YtnfnmjjdcaphjaaW.PrintLast Go.Proofs.YtnfnmjjdcaphjaaW.PrintMore
def withylaw07_HeadBurst.Pure : Prop := ∀ (x0 : S23) (x1 : ByteArray) (x2 : S43), (fit23 x0) → (x1.size ≤ 140737488351232) → (fit43 x2) → ∃ k, withylaw07_HeadBurst.f k x0.f0 x0.f1 x0.f2 x0.f3 x0.f4 x1 x2.f0 x2.f1.f0 x2.f1.f1 x2.f1.f2 x2.f1.f3 = some true
end Go.Proofs.Ytnfnmjjdcaphjaa.P
