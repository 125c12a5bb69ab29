/- What is said here: the one pure statement of the law MetaEach. Nothing is proved. -/
import Derived.Test.YtnkndnpnjbcaoaaFits
import Derived.Test.YtnkndnpnjbcaoaaP23
namespace Go.Proofs.Ytnkndnpnjbcaoaa.P
open Go.RowKit Go.Proofs.YtnkndnpnjbcaoaaW.PrintWords Go.Proofs.YtnkndnpnjbcaoaaW.PrintLast Go.Proofs.YtnkndnpnjbcaoaaW.PrintMore
def withylaw13_MetaEach.Pure : Prop := ∀ (x0 : S23) (x1 : Int), (fit23 x0) → ((Lit.int .u8 x1).wf = true) → ∃ k, withylaw13_MetaEach.f k x0.f0 x0.f1 x0.f2 x0.f3 x0.f4 x1 = some true
end Go.Proofs.Ytnkndnpnjbcaoaa.P
