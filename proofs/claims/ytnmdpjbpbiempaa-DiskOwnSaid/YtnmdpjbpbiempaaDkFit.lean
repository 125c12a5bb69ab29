/- What is proved here: how the writes and choices that a law is handed open. Conditions: none. -/
import Derived.Test.YtnmdpjbpbiempaaOpen
import Derived.Test.YtnmdpjbpbiempaaDkL
import Derived.KernelRfl
namespace Go.Proofs.Ytnmdpjbpbiempaa.P
open Go.RowKit Go.Proofs.YtnmdpjbpbiempaaW.PrintWords Go.Proofs.YtnmdpjbpbiempaaOpen
def fitWr (x : Wr) : Prop := ((Lit.int .u8 x.f0).wf = true) ∧ ((Lit.int .u8 x.f1).wf = true)
theorem opensWr : Opens Try.prog 49 kWr fitWr := opens_struct Try.underlying49 rfl (by kernel_rfl) (opensF_cons rfl (opens_int Try.underlying5 (by kernel_rfl)) (opensF_one rfl (opens_int Try.underlying5 (by kernel_rfl)))) (fun a => ⟨a.1, a.2⟩) (fun _ => rfl)
theorem u8_of {x : Int} (h : (Lit.int .u8 x).wf = true) : 0 ≤ x ∧ x < 256 := by
  have e : IntKind.min .u8 ≤ x ∧ x ≤ IntKind.max .u8 := by simpa [Lit.wf] using h
  have e1 : IntKind.min .u8 = 0 := rfl
  have e2 : IntKind.max .u8 = 255 := rfl
  omega
theorem wrOk_of {x : Wr} (h : fitWr x) : WrOk x := ⟨u8_of h.1, u8_of h.2⟩
end Go.Proofs.Ytnmdpjbpbiempaa.P
