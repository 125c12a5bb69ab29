/- What is proved here: how data of this program's struct types open. Conditions: none. -/
import Derived.Test.YtnfnmjjdcaphjaaOpen
import Derived.Test.YtnfnmjjdcaphjaaP0
import Derived.KernelRfl
namespace Go.Proofs.Ytnfnmjjdcaphjaa.P
open Go.RowKit Go.Proofs.YtnfnmjjdcaphjaaW.PrintWords Go.Proofs.YtnfnmjjdcaphjaaOpen
def fit23 (x : S23) : Prop := ((Lit.int .i64 x.f0).wf = true) ∧ ((Lit.int .i64 x.f1).wf = true) ∧ ((Lit.int .i64 x.f2).wf = true) ∧ ((Lit.int .i64 x.f3).wf = true) ∧ ((Lit.int .i64 x.f4).wf = true)
theorem opens23 : Opens Try.prog 23 k23 fit23 := opens_struct Try.underlying23 rfl (by kernel_rfl) (opensF_cons rfl (opens_int Try.underlying3 (by kernel_rfl)) (opensF_cons rfl (opens_int Try.underlying3 (by kernel_rfl)) (opensF_cons rfl (opens_int Try.underlying3 (by kernel_rfl)) (opensF_cons rfl (opens_int Try.underlying3 (by kernel_rfl)) (opensF_one rfl (opens_int Try.underlying3 (by kernel_rfl))))))) (fun a => ⟨a.1, a.2.1, a.2.2.1, a.2.2.2.1, a.2.2.2.2⟩) (fun _ => rfl)
def fit41 (x : S41) : Prop := ((Lit.int .u8 x.f0).wf = true) ∧ ((Lit.int .u8 x.f1).wf = true) ∧ ((Lit.int .u8 x.f2).wf = true) ∧ ((Lit.int .u8 x.f3).wf = true)
theorem opens41 : Opens Try.prog 41 k41 fit41 := opens_array Try.underlying41 (by kernel_rfl) (opensA_cons (opens_int Try.underlying5 (by kernel_rfl)) (opensA_cons (opens_int Try.underlying5 (by kernel_rfl)) (opensA_cons (opens_int Try.underlying5 (by kernel_rfl)) (opensA_one (opens_int Try.underlying5 (by kernel_rfl)))))) (fun a => ⟨a.1, a.2.1, a.2.2.1, a.2.2.2⟩) (fun _ => rfl)
def fit43 (x : S43) : Prop := ((Lit.int .u8 x.f0).wf = true) ∧ (fit41 x.f1)
theorem opens43 : Opens Try.prog 43 k43 fit43 := opens_struct Try.underlying43 rfl (by kernel_rfl) (opensF_cons rfl (opens_int Try.underlying5 (by kernel_rfl)) (opensF_one rfl opens41)) (fun a => ⟨a.1, a.2⟩) (fun _ => rfl)
end Go.Proofs.Ytnfnmjjdcaphjaa.P
