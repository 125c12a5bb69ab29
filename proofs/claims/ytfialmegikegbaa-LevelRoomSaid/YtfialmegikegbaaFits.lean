/- What is proved here: how data of this program's struct types open. Conditions: none. -/
import Derived.Test.YtfialmegikegbaaOpen
import Derived.Test.YtfialmegikegbaaP0
import Derived.KernelRfl
namespace Go.Proofs.Ytfialmegikegbaa.P
open Go.RowKit Go.Proofs.YtfialmegikegbaaW.PrintWords Go.Proofs.YtfialmegikegbaaOpen
end Go.Proofs.Ytfialmegikegbaa.P
