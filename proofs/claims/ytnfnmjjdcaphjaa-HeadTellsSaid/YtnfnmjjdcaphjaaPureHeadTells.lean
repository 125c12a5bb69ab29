/- What is proved here: the pure statement of HeadTells: whether any head may be, any page, and what any page is opened to, is as the document says. Conditions: sizes within the form's reach. -/
import Derived.Test.YtnfnmjjdcaphjaaStmtHeadTells
import Derived.Test.YtnfnmjjdcaphjaaSpec3
set_option linter.unusedVariables false
set_option linter.unusedSimpArgs false
namespace Go.Proofs.Ytnfnmjjdcaphjaa.Pure
open Go.RowKit Go.Proofs.YtnfnmjjdcaphjaaW.PrintWords Go.Proofs.YtnfnmjjdcaphjaaW.PrintLast Go.Proofs.YtnfnmjjdcaphjaaW.PrintMore Go.Proofs.YtnfnmjjdcaphjaaEv Go.Proofs.YtnfnmjjdcaphjaaSum Go.Proofs.YtnfnmjjdcaphjaaHead Go.Proofs.Ytnfnmjjdcaphjaa.P Go.Proofs.Ytnfnmjjdcaphjaa.Spec

theorem HeadTells : withylaw07_HeadTells.Pure := by
  intro ⟨a0, a1, a2, a3, a4⟩ ⟨b, p⟩ s hx hy hz
  have mb := mn_eq (b.size : Int) 1100
  have ms := mn_eq (s.size : Int) 1100
  have m1 : (mn (b.size : Int) 1100).toNat = min b.size 1100 := by omega
  have m2 : (mn (s.size : Int) 1100).toNat = min s.size 1100 := by omega
  refine Ev.rounds ?_
  show Ev (fun k => withylaw07_HeadTells.f k a0 a1 a2 a3 a4 b p s) true
  unfold withylaw07_HeadTells.f
  rw [m1, m2]
  have hsz : (s.extract 0 (min s.size 1100)).size ≤ 140737488300000 := by rw [size_extract]; omega
  refine ev_pos (by omega) (ev_pos (by omega) (ev_pos (by omega) (ev_pos (by omega) ?_)))
  generalize b.extract 0 (min b.size 1100) = c
  generalize s.extract 0 (min s.size 1100) = t at hsz ⊢
  refine ev_bind (seal_ev a0 a1 a2 a3 a4 c p) (ev_bind_now rfl (ev_bind (rseal_ev a0 a1 a2 a3 a4 c p) (ev_bind (open_ev t hsz) (ev_bind (ropen_ev t hsz) (ev_bind (right_ev a0 a1 a2 a3 a4) (ev_bind_now rfl (ev_bind_now (rright_eq a0 a1 a2 a3 a4) ?_)))))))
  refine ev_pos (by simp) (ev_pos rfl (ev_pos rfl (ev_bind_now rfl (ev_pos (by simp) (ev_pos rfl (ev_pos rfl (ev_bind fixed_ev ev_some)))))))
end Go.Proofs.Ytnfnmjjdcaphjaa.Pure
