/- What is proved here: how data of this program's struct types open. Conditions: none. -/
import Derived.Test.YthaicofleloplaaDoorOpen
import Derived.Test.YthaicofleloplaaDoorP0
import Derived.KernelRfl
namespace Go.Proofs.YthaicofleloplaaDoor.P
open Go.RowKit Go.Proofs.YthaicofleloplaaDoorW.PrintWords Go.Proofs.YthaicofleloplaaDoorOpen
def fit24 (x : S24) : Prop := (x.f0.size ≤ 140737488351232) ∧ ((Lit.int .i64 x.f1).wf = true)
theorem opens24 : Opens Tryd.prog 24 k24 fit24 := opens_struct Tryd.underlying24 rfl (by kernel_rfl) (opensF_cons rfl (opens_string Tryd.underlying9 (by kernel_rfl)) (opensF_one rfl (opens_int Tryd.underlying3 (by kernel_rfl)))) (fun a => ⟨a.1, a.2⟩) (fun _ => rfl)
def fit51 (x : S51) : Prop := ((Lit.int .i64 x.f0).wf = true) ∧ ((Lit.int .i64 x.f1).wf = true) ∧ ((Lit.int .u64 x.f2).wf = true) ∧ (x.f3.size ≤ 140737488351232)
theorem opens51 : Opens Tryd.prog 51 k51 fit51 := opens_struct Tryd.underlying51 rfl (by kernel_rfl) (opensF_cons rfl (opens_int Tryd.underlying3 (by kernel_rfl)) (opensF_cons rfl (opens_int Tryd.underlying2 (by kernel_rfl)) (opensF_cons rfl (opens_int Tryd.underlying49 (by kernel_rfl)) (opensF_one rfl (opens_string Tryd.underlying9 (by kernel_rfl)))))) (fun a => ⟨a.1, a.2.1, a.2.2.1, a.2.2.2⟩) (fun _ => rfl)
end Go.Proofs.YthaicofleloplaaDoor.P
