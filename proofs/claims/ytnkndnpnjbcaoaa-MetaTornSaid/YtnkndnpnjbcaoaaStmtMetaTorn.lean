/- What is said here: the one pure statement of the law MetaTorn. Nothing is proved. -/
import Derived.Test.YtnkndnpnjbcaoaaFits
import Derived.Test.YtnkndnpnjbcaoaaP15
namespace Go.Proofs.Ytnkndnpnjbcaoaa.P
open Go.RowKit Go.Proofs.YtnkndnpnjbcaoaaW.PrintWords Go.Proofs.YtnkndnpnjbcaoaaW.PrintLast Go.Proofs.YtnkndnpnjbcaoaaW.PrintMore
def withylaw13_MetaTorn.Pure : Prop := ∀ (x0 : S23) (x1 : Int) (x2 : Int), (fit23 x0) → ((Lit.int .u16 x1).wf = true) → ((Lit.int .u8 x2).wf = true) → ∃ k, withylaw13_MetaTorn.f k x0.f0 x0.f1 x0.f2 x0.f3 x0.f4 x1 x2 = some true
end Go.Proofs.Ytnkndnpnjbcaoaa.P
