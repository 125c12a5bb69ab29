/- What is said here: the one pure statement of the law MetaTells. Nothing is proved. -/
import Derived.Test.YtnkndnpnjbcaoaaFits
import Derived.Test.YtnkndnpnjbcaoaaP13
namespace Go.Proofs.Ytnkndnpnjbcaoaa.P
open Go.RowKit Go.Proofs.YtnkndnpnjbcaoaaW.PrintWords Go.Proofs.YtnkndnpnjbcaoaaW.PrintLast Go.Proofs.YtnkndnpnjbcaoaaW.PrintMore
def withylaw13_MetaTells.Pure : Prop := ∀ (x0 : S23) (x1 : S24) (x2 : Int), (fit23 x0) → (fit24 x1) → ((Lit.int .i64 x2).wf = true) → ∃ k, withylaw13_MetaTells.f k x0.f0 x0.f1 x0.f2 x0.f3 x0.f4 x1.f0 x1.f1 x2 = some true
end Go.Proofs.Ytnkndnpnjbcaoaa.P
