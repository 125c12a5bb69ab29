/- What is said here: the one pure statement of the law LevelRoom. Nothing is proved. -/
import Derived.Test.YtfialmegikegbaaFits
import Derived.Test.YtfialmegikegbaaP10
namespace Go.Proofs.Ytfialmegikegbaa.P
open Go.RowKit Go.Proofs.YtfialmegikegbaaW.PrintWords Go.Proofs.YtfialmegikegbaaW.PrintLast Go.Proofs.YtfialmegikegbaaW.PrintMore
def withylaw17_LevelRoom.Pure : Prop := ∀ (x0 : List ByteArray) (x1 : Int), (x0.length * 16 ≤ 140737488351232 ∧ x0.length ≤ 9223372036854775807 ∧ ∀ a_ ∈ x0, a_.size ≤ 140737488351232) → ((Lit.int .i64 x1).wf = true) → ∃ k, withylaw17_LevelRoom.f k x0 x1 = some true
end Go.Proofs.Ytfialmegikegbaa.P
