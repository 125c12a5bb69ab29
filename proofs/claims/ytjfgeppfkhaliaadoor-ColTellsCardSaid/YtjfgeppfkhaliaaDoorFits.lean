/- What is proved here: how data of this program's struct types open. Conditions: none. -/
import Derived.Test.YtjfgeppfkhaliaaDoorOpen
import Derived.Test.YtjfgeppfkhaliaaDoorP0
import Derived.KernelRfl
namespace Go.Proofs.YtjfgeppfkhaliaaDoor.P
open Go.RowKit Go.Proofs.YtjfgeppfkhaliaaDoorW.PrintWords Go.Proofs.YtjfgeppfkhaliaaDoorOpen
def fit24 (x : S24) : Prop := ((Lit.int .i64 x.f0).wf = true) ∧ ((Lit.int .i64 x.f1).wf = true) ∧ ((Lit.int .u64 x.f2).wf = true) ∧ (x.f3.size ≤ 140737488351232)
theorem opens24 : Opens Tryd.prog 24 k24 fit24 := opens_struct Tryd.underlying24 rfl (by kernel_rfl) (opensF_cons rfl (opens_int Tryd.underlying3 (by kernel_rfl)) (opensF_cons rfl (opens_int Tryd.underlying2 (by kernel_rfl)) (opensF_cons rfl (opens_int Tryd.underlying22 (by kernel_rfl)) (opensF_one rfl (opens_string Tryd.underlying9 (by kernel_rfl)))))) (fun a => ⟨a.1, a.2.1, a.2.2.1, a.2.2.2⟩) (fun _ => rfl)
def fit26 (x : S26) : Prop := (x.f0.size ≤ 140737488351232) ∧ ((Lit.int .i64 x.f1).wf = true)
theorem opens26 : Opens Tryd.prog 26 k26 fit26 := opens_struct Tryd.underlying26 rfl (by kernel_rfl) (opensF_cons rfl (opens_string Tryd.underlying9 (by kernel_rfl)) (opensF_one rfl (opens_int Tryd.underlying3 (by kernel_rfl)))) (fun a => ⟨a.1, a.2⟩) (fun _ => rfl)
end Go.Proofs.YtjfgeppfkhaliaaDoor.P
