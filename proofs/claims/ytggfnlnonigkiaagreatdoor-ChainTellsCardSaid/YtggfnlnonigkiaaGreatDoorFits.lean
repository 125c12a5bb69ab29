/- What is proved here: how data of this program's struct types open. Conditions: none. -/
import Derived.Test.YtggfnlnonigkiaaGreatDoorOpen
import Derived.Test.YtggfnlnonigkiaaGreatDoorP0
import Derived.KernelRfl
namespace Go.Proofs.YtggfnlnonigkiaaGreatDoor.P
open Go.RowKit Go.Proofs.YtggfnlnonigkiaaGreatDoorW.PrintWords Go.Proofs.YtggfnlnonigkiaaGreatDoorOpen
def fit23 (x : S23) : Prop := ((Lit.int .i64 x.f0).wf = true) ∧ ((Lit.int .i64 x.f1).wf = true) ∧ (x.f2.size ≤ 140737488351232)
theorem opens23 : Opens Tryz.prog 23 k23 fit23 := opens_struct Tryz.underlying23 rfl (by kernel_rfl) (opensF_cons rfl (opens_int Tryz.underlying3 (by kernel_rfl)) (opensF_cons rfl (opens_int Tryz.underlying3 (by kernel_rfl)) (opensF_one rfl (opens_string Tryz.underlying9 (by kernel_rfl))))) (fun a => ⟨a.1, a.2.1, a.2.2⟩) (fun _ => rfl)
def fit25 (x : S25) : Prop := (x.f0.size ≤ 140737488351232) ∧ (x.f1.size ≤ 140737488351232) ∧ ((Lit.int .i64 x.f2).wf = true)
theorem opens25 : Opens Tryz.prog 25 k25 fit25 := opens_struct Tryz.underlying25 rfl (by kernel_rfl) (opensF_cons rfl (opens_string Tryz.underlying9 (by kernel_rfl)) (opensF_cons rfl (opens_string Tryz.underlying9 (by kernel_rfl)) (opensF_one rfl (opens_int Tryz.underlying3 (by kernel_rfl))))) (fun a => ⟨a.1, a.2.1, a.2.2⟩) (fun _ => rfl)
end Go.Proofs.YtggfnlnonigkiaaGreatDoor.P
