/- What is proved here: how data of this program's struct types open. Conditions: none. -/
import Derived.Test.YtggfnlnonigkiaaDoorOpen
import Derived.Test.YtggfnlnonigkiaaDoorP0
import Derived.KernelRfl
namespace Go.Proofs.YtggfnlnonigkiaaDoor.P
open Go.RowKit Go.Proofs.YtggfnlnonigkiaaDoorW.PrintWords Go.Proofs.YtggfnlnonigkiaaDoorOpen
def fit23 (x : S23) : Prop := ((Lit.int .i64 x.f0).wf = true) ∧ ((Lit.int .i64 x.f1).wf = true) ∧ (x.f2.size ≤ 140737488351232)
theorem opens23 : Opens Tryd.prog 23 k23 fit23 := opens_struct Tryd.underlying23 rfl (by kernel_rfl) (opensF_cons rfl (opens_int Tryd.underlying3 (by kernel_rfl)) (opensF_cons rfl (opens_int Tryd.underlying3 (by kernel_rfl)) (opensF_one rfl (opens_string Tryd.underlying9 (by kernel_rfl))))) (fun a => ⟨a.1, a.2.1, a.2.2⟩) (fun _ => rfl)
def fit43 (x : S43) : Prop := ((Lit.int .u16 x.f0).wf = true) ∧ ((Lit.int .u16 x.f1).wf = true)
theorem opens43 : Opens Tryd.prog 43 k43 fit43 := opens_array Tryd.underlying43 (by kernel_rfl) (opensA_cons (opens_int Tryd.underlying42 (by kernel_rfl)) (opensA_one (opens_int Tryd.underlying42 (by kernel_rfl)))) (fun a => ⟨a.1, a.2⟩) (fun _ => rfl)
end Go.Proofs.YtggfnlnonigkiaaDoor.P
