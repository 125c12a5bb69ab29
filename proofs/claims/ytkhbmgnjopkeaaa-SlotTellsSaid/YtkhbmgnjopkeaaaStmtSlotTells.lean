/- What is said here: the one pure statement of the law SlotTells. Nothing is proved. -/
import Derived.Test.YtkhbmgnjopkeaaaFits
import Derived.Test.YtkhbmgnjopkeaaaP7
namespace Go.Proofs.Ytkhbmgnjopkeaaa.P
open Go.RowKit Go.Proofs.YtkhbmgnjopkeaaaW.PrintWords Go.Proofs.YtkhbmgnjopkeaaaW.PrintLast Go.Proofs.YtkhbmgnjopkeaaaW.PrintMore
def withylaw08_SlotTells.Pure : Prop := ∀ (x0 : Int) (x1 : S24) (x2 : S26), ((Lit.int .i64 x0).wf = true) → (fit24 x1) → (fit26 x2) → ∃ k, withylaw08_SlotTells.f k x0 x1.f0 x1.f1 x2.f0 x2.f1 x2.f2 = some true
end Go.Proofs.Ytkhbmgnjopkeaaa.P
