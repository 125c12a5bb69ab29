/- What is proved here: how data of this program's struct types open. Conditions: none. -/
import Derived.Test.YthflaiogollleaaOpen
import Derived.Test.YthflaiogollleaaP0
import Derived.KernelRfl
namespace Go.Proofs.Ythflaiogollleaa.P
open Go.RowKit Go.Proofs.YthflaiogollleaaW.PrintWords Go.Proofs.YthflaiogollleaaOpen
end Go.Proofs.Ythflaiogollleaa.P
