/- What is said here: the one pure statement of the law SlotSums. Nothing is proved. -/
import Derived.Test.YtkhbmgnjopkeaaaFits
import Derived.Test.YtkhbmgnjopkeaaaP10
namespace Go.Proofs.Ytkhbmgnjopkeaaa.P
open Go.RowKit Go.Proofs.YtkhbmgnjopkeaaaW.PrintWords Go.Proofs.YtkhbmgnjopkeaaaW.PrintLast Go.Proofs.YtkhbmgnjopkeaaaW.PrintMore
def withylaw08_SlotSums.Pure : Prop := ∀ (x0 : S24) (x1 : List ByteArray) (x2 : Int), (fit24 x0) → (x1.length * 16 ≤ 140737488351232 ∧ x1.length ≤ 9223372036854775807 ∧ ∀ a_ ∈ x1, a_.size ≤ 140737488351232) → ((Lit.int .u8 x2).wf = true) → ∃ k, withylaw08_SlotSums.f k x0.f0 x0.f1 x1 x2 = some true
end Go.Proofs.Ytkhbmgnjopkeaaa.P
