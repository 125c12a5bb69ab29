/- What is proved here: how data of this program's struct types open. Conditions: none. -/
import Derived.Test.YtafebmhmcdnhkaaGreatOpen
import Derived.Test.YtafebmhmcdnhkaaGreatP0
import Derived.KernelRfl
namespace Go.Proofs.YtafebmhmcdnhkaaGreat.P
open Go.RowKit Go.Proofs.YtafebmhmcdnhkaaGreatW.PrintWords Go.Proofs.YtafebmhmcdnhkaaGreatOpen
def fit25 (x : S25) : Prop := ((Lit.int .i64 x.f0).wf = true) ∧ ((Lit.int .i64 x.f1).wf = true) ∧ ((Lit.int .i64 x.f2).wf = true) ∧ (x.f3.size ≤ 140737488351232) ∧ (x.f4.length * 8 ≤ 140737488351232 ∧ x.f4.length ≤ 9223372036854775807 ∧ ∀ a_ ∈ x.f4, (Lit.int .i64 a_).wf = true) ∧ (x.f5.length * 16 ≤ 140737488351232 ∧ x.f5.length ≤ 9223372036854775807 ∧ ∀ a_ ∈ x.f5, a_.size ≤ 140737488351232)
theorem opens25 : Opens Tryz.prog 25 k25 fit25 := opens_struct Tryz.underlying25 rfl (by kernel_rfl) (opensF_cons rfl (opens_int Tryz.underlying3 (by kernel_rfl)) (opensF_cons rfl (opens_int Tryz.underlying3 (by kernel_rfl)) (opensF_cons rfl (opens_int Tryz.underlying3 (by kernel_rfl)) (opensF_cons rfl (opens_string Tryz.underlying9 (by kernel_rfl)) (opensF_cons rfl (opens_slice (B := 8) Tryz.underlying22 (by kernel_rfl) (by kernel_rfl) (opens_int Tryz.underlying3 (by kernel_rfl))) (opensF_one rfl (opens_slice (B := 16) Tryz.underlying23 (by kernel_rfl) (by kernel_rfl) (opens_string Tryz.underlying9 (by kernel_rfl))))))))) (fun a => ⟨a.1, a.2.1, a.2.2.1, a.2.2.2.1, a.2.2.2.2.1, a.2.2.2.2.2⟩) (fun _ => rfl)
end Go.Proofs.YtafebmhmcdnhkaaGreat.P
