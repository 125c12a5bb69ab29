/- What is said here: the one pure statement of the law MetaFields. Nothing is proved. -/
import Derived.Test.YtnkndnpnjbcaoaaFits
import Derived.Test.YtnkndnpnjbcaoaaP16
namespace Go.Proofs.Ytnkndnpnjbcaoaa.P
open Go.RowKit Go.Proofs.YtnkndnpnjbcaoaaW.PrintWords Go.Proofs.YtnkndnpnjbcaoaaW.PrintLast Go.Proofs.YtnkndnpnjbcaoaaW.PrintMore
def withylaw13_MetaFields.Pure : Prop := ∀ (x0 : S23), (fit23 x0) → ∃ k, withylaw13_MetaFields.f k x0.f0 x0.f1 x0.f2 x0.f3 x0.f4 = some true
end Go.Proofs.Ytnkndnpnjbcaoaa.P
