/- What is said here: the one pure statement of the law InnerBack. Nothing is proved. -/
import Derived.Test.YtafebmhmcdnhkaaGreatFits
import Derived.Test.YtafebmhmcdnhkaaGreatP14
namespace Go.Proofs.YtafebmhmcdnhkaaGreat.P
open Go.RowKit Go.Proofs.YtafebmhmcdnhkaaGreatW.PrintWords Go.Proofs.YtafebmhmcdnhkaaGreatW.PrintLast Go.Proofs.YtafebmhmcdnhkaaGreatW.PrintMore
def withylaw11_InnerBack.Pure : Prop := ∀ (x0 : S25) (x1 : Int) (x2 : ByteArray), (fit25 x0) → ((Lit.int .i64 x1).wf = true) → (x2.size ≤ 140737488351232) → ∃ k, withylaw11_InnerBack.f k x0.f0 x0.f1 x0.f2 x0.f3 x0.f4 x0.f5 x1 x2 = some true
end Go.Proofs.YtafebmhmcdnhkaaGreat.P
