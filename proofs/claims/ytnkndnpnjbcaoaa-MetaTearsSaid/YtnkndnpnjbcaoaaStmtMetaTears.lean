/- What is said here: the one pure statement of the law MetaTears. Nothing is proved. -/
import Derived.Test.YtnkndnpnjbcaoaaFits
import Derived.Test.YtnkndnpnjbcaoaaP22
namespace Go.Proofs.Ytnkndnpnjbcaoaa.P
open Go.RowKit Go.Proofs.YtnkndnpnjbcaoaaW.PrintWords Go.Proofs.YtnkndnpnjbcaoaaW.PrintLast Go.Proofs.YtnkndnpnjbcaoaaW.PrintMore
def withylaw13_MetaTears.Pure : Prop := ∀ (x0 : ByteArray) (x1 : ByteArray) (x2 : S51), (x0.size ≤ 140737488351232) → (x1.size ≤ 140737488351232) → (fit51 x2) → ∃ k, withylaw13_MetaTears.f k x0 x1 x2.f0 x2.f1 = some true
end Go.Proofs.Ytnkndnpnjbcaoaa.P
