/- What is proved here: how data of this program's struct types open. Conditions: none. -/
import Derived.Test.YthflaiogollleaaOpen
import Derived.Test.YthflaiogollleaaP0
import Derived.KernelRfl
namespace Go.Proofs.Ythflaiogollleaa.P
open Go.RowKit Go.Proofs.YthflaiogollleaaW.PrintWords Go.Proofs.YthflaiogollleaaOpen
def fit39 (x : S39) : Prop := (x.f0.size ≤ 140737488351232) ∧ (x.f1.size ≤ 140737488351232) ∧ (x.f2.size ≤ 140737488351232)
theorem opens39 : Opens Try.prog 39 k39 fit39 := opens_array Try.underlying39 (by kernel_rfl) (opensA_cons (opens_string Try.underlying9 (by kernel_rfl)) (opensA_cons (opens_string Try.underlying9 (by kernel_rfl)) (opensA_one (opens_string Try.underlying9 (by kernel_rfl))))) (fun a => ⟨a.1, a.2.1, a.2.2⟩) (fun _ => rfl)
end Go.Proofs.Ythflaiogollleaa.P
