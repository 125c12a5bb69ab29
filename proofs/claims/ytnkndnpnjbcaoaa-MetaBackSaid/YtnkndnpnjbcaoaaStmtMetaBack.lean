/- What is said here: the one pure statement of the law MetaBack. Nothing is proved. -/
import Derived.Test.YtnkndnpnjbcaoaaFits
import Derived.Test.YtnkndnpnjbcaoaaP14
namespace Go.Proofs.Ytnkndnpnjbcaoaa.P
open Go.RowKit Go.Proofs.YtnkndnpnjbcaoaaW.PrintWords Go.Proofs.YtnkndnpnjbcaoaaW.PrintLast Go.Proofs.YtnkndnpnjbcaoaaW.PrintMore
def withylaw13_MetaBack.Pure : Prop := ∀ (x0 : S23) (x1 : S23) (x2 : ByteArray), (fit23 x0) → (fit23 x1) → (x2.size ≤ 140737488351232) → ∃ k, withylaw13_MetaBack.f k x0.f0 x0.f1 x0.f2 x0.f3 x0.f4 x1.f0 x1.f1 x1.f2 x1.f3 x1.f4 x2 = some true
end Go.Proofs.Ytnkndnpnjbcaoaa.P
