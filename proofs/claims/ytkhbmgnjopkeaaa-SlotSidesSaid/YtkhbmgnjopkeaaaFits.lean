/- What is proved here: how data of this program's struct types open. Conditions: none. -/
import Derived.Test.YtkhbmgnjopkeaaaOpen
import Derived.Test.YtkhbmgnjopkeaaaP0
import Derived.KernelRfl
namespace Go.Proofs.Ytkhbmgnjopkeaaa.P
open Go.RowKit Go.Proofs.YtkhbmgnjopkeaaaW.PrintWords Go.Proofs.YtkhbmgnjopkeaaaOpen
def fit24 (x : S24) : Prop := (x.f0.size ≤ 140737488351232) ∧ (x.f1.length * 16 ≤ 140737488351232 ∧ x.f1.length ≤ 9223372036854775807 ∧ ∀ a_ ∈ x.f1, a_.size ≤ 140737488351232)
theorem opens24 : Opens Try.prog 24 k24 fit24 := opens_struct Try.underlying24 rfl (by kernel_rfl) (opensF_cons rfl (opens_string Try.underlying9 (by kernel_rfl)) (opensF_one rfl (opens_slice (B := 16) Try.underlying22 (by kernel_rfl) (by kernel_rfl) (opens_string Try.underlying9 (by kernel_rfl))))) (fun a => ⟨a.1, a.2⟩) (fun _ => rfl)
def fit26 (x : S26) : Prop := (x.f0.size ≤ 140737488351232) ∧ ((Lit.int .i64 x.f1).wf = true) ∧ ((Lit.int .i64 x.f2).wf = true)
theorem opens26 : Opens Try.prog 26 k26 fit26 := opens_struct Try.underlying26 rfl (by kernel_rfl) (opensF_cons rfl (opens_string Try.underlying9 (by kernel_rfl)) (opensF_cons rfl (opens_int Try.underlying3 (by kernel_rfl)) (opensF_one rfl (opens_int Try.underlying3 (by kernel_rfl))))) (fun a => ⟨a.1, a.2.1, a.2.2⟩) (fun _ => rfl)
end Go.Proofs.Ytkhbmgnjopkeaaa.P
