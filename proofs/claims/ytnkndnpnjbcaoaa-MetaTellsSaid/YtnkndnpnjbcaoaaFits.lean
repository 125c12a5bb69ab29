/- What is proved here: how data of this program's struct types open. Conditions: none. -/
import Derived.Test.YtnkndnpnjbcaoaaOpen
import Derived.Test.YtnkndnpnjbcaoaaP0
import Derived.KernelRfl
namespace Go.Proofs.Ytnkndnpnjbcaoaa.P
open Go.RowKit Go.Proofs.YtnkndnpnjbcaoaaW.PrintWords Go.Proofs.YtnkndnpnjbcaoaaOpen
def fit23 (x : S23) : Prop := ((Lit.int .i64 x.f0).wf = true) ∧ ((Lit.int .i64 x.f1).wf = true) ∧ ((Lit.int .i64 x.f2).wf = true) ∧ ((Lit.int .i64 x.f3).wf = true) ∧ ((Lit.int .i64 x.f4).wf = true)
theorem opens23 : Opens Try.prog 23 k23 fit23 := opens_struct Try.underlying23 rfl (by kernel_rfl) (opensF_cons rfl (opens_int Try.underlying3 (by kernel_rfl)) (opensF_cons rfl (opens_int Try.underlying3 (by kernel_rfl)) (opensF_cons rfl (opens_int Try.underlying3 (by kernel_rfl)) (opensF_cons rfl (opens_int Try.underlying3 (by kernel_rfl)) (opensF_one rfl (opens_int Try.underlying3 (by kernel_rfl))))))) (fun a => ⟨a.1, a.2.1, a.2.2.1, a.2.2.2.1, a.2.2.2.2⟩) (fun _ => rfl)
def fit24 (x : S24) : Prop := (x.f0.size ≤ 140737488351232) ∧ (x.f1.size ≤ 140737488351232)
theorem opens24 : Opens Try.prog 24 k24 fit24 := opens_array Try.underlying24 (by kernel_rfl) (opensA_cons (opens_string Try.underlying9 (by kernel_rfl)) (opensA_one (opens_string Try.underlying9 (by kernel_rfl)))) (fun a => ⟨a.1, a.2⟩) (fun _ => rfl)
def fit51 (x : S51) : Prop := ((Lit.int .i64 x.f0).wf = true) ∧ ((Lit.int .i64 x.f1).wf = true)
theorem opens51 : Opens Try.prog 51 k51 fit51 := opens_array Try.underlying51 (by kernel_rfl) (opensA_cons (opens_int Try.underlying3 (by kernel_rfl)) (opensA_one (opens_int Try.underlying3 (by kernel_rfl)))) (fun a => ⟨a.1, a.2⟩) (fun _ => rfl)
end Go.Proofs.Ytnkndnpnjbcaoaa.P
