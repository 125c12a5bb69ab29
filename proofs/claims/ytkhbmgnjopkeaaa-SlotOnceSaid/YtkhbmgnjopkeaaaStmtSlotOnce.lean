/- What is said here: the one pure statement of the law SlotOnce. Nothing is proved. -/
import Derived.Test.YtkhbmgnjopkeaaaFits
import Derived.Test.YtkhbmgnjopkeaaaP8
namespace Go.Proofs.Ytkhbmgnjopkeaaa.P
open Go.RowKit Go.Proofs.YtkhbmgnjopkeaaaW.PrintWords Go.Proofs.YtkhbmgnjopkeaaaW.PrintLast Go.Proofs.YtkhbmgnjopkeaaaW.PrintMore
def withylaw08_SlotOnce.Pure : Prop := ∀ (x0 : S26), (fit26 x0) → ∃ k, withylaw08_SlotOnce.f k x0.f0 x0.f1 x0.f2 = some true
end Go.Proofs.Ytkhbmgnjopkeaaa.P
