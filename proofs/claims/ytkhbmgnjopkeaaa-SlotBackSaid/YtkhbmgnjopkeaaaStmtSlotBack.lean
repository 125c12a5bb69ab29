/- What is said here: the one pure statement of the law SlotBack. Nothing is proved. -/
import Derived.Test.YtkhbmgnjopkeaaaFits
import Derived.Test.YtkhbmgnjopkeaaaP7
namespace Go.Proofs.Ytkhbmgnjopkeaaa.P
open Go.RowKit Go.Proofs.YtkhbmgnjopkeaaaW.PrintWords Go.Proofs.YtkhbmgnjopkeaaaW.PrintLast Go.Proofs.YtkhbmgnjopkeaaaW.PrintMore
def withylaw08_SlotBack.Pure : Prop := ∀ (x0 : Int) (x1 : S24), ((Lit.int .u16 x0).wf = true) → (fit24 x1) → ∃ k, withylaw08_SlotBack.f k x0 x1.f0 x1.f1 = some true
end Go.Proofs.Ytkhbmgnjopkeaaa.P
