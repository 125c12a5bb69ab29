/- What is proved here: the pure statement of MetaTells: whether any meta may be, its page, the meta of any page, and a page that is torn, is as the document says. Conditions: sizes within the form's reach. -/
import Derived.Test.YtnkndnpnjbcaoaaStmtMetaTells
import Derived.Test.YtnkndnpnjbcaoaaMRef
set_option linter.unusedVariables false
set_option linter.unusedSimpArgs false
namespace Go.Proofs.Ytnkndnpnjbcaoaa.Pure
open Go.RowKit Go.Proofs.YtnkndnpnjbcaoaaW.PrintWords Go.Proofs.YtnkndnpnjbcaoaaW.PrintLast Go.Proofs.YtnkndnpnjbcaoaaW.PrintMore Go.Proofs.YtnkndnpnjbcaoaaEv Go.Proofs.YtnkndnpnjbcaoaaSum Go.Proofs.YtnkndnpnjbcaoaaHead Go.Proofs.Ytnkndnpnjbcaoaa.P Go.Proofs.Ytnkndnpnjbcaoaa.Spec

theorem MetaTells : withylaw13_MetaTells.Pure := by
  intro ⟨a0, a1, a2, a3, a4⟩ ⟨s, t⟩ n hx hy hz
  have ms := mn_eq (s.size : Int) 1100
  have mt := mn_eq (t.size : Int) 1100
  have m1 : (mn (s.size : Int) 1100).toNat = min s.size 1100 := by omega
  have m2 : (mn (t.size : Int) 1100).toNat = min t.size 1100 := by omega
  refine Ev.rounds ?_
  show Ev (fun k => withylaw13_MetaTells.f k a0 a1 a2 a3 a4 s t n) true
  unfold withylaw13_MetaTells.f
  rw [m1, m2]
  have hs : (s.extract 0 (min s.size 1100)).size ≤ 140737488300000 := by rw [size_extract]; omega
  have ht : (t.extract 0 (min t.size 1100)).size ≤ 140737488300000 := by rw [size_extract]; omega
  refine ev_pos (by omega) (ev_pos (by omega) (ev_pos (by omega) (ev_pos (by omega) ?_)))
  generalize s.extract 0 (min s.size 1100) = c at hs ⊢
  generalize t.extract 0 (min t.size 1100) = d at ht ⊢
  refine ev_bind (enc_ev a0 a1 a2 a3 a4) (ev_bind_now rfl (ev_bind (renc_ev a0 a1 a2 a3 a4) (ev_bind (dec_ev c hs) (ev_bind (rdec_ev c hs) (ev_bind_now (may_eq a0 a1 a2 a3 a4) (ev_bind_now rfl (ev_bind_now (rmay_eq a0 a1 a2 a3 a4) ?_)))))))
  exact ev_pos (by simp) (ev_pos rfl (ev_pos rfl (ev_bind_now rfl (ev_pos (by simp) (ev_pos rfl (ev_bind_now (tear_eq c d n hs) (ev_bind_now (rtear_eq c d n ht) (ev_pos rfl (ev_bind fixed_ev ev_some)))))))))
end Go.Proofs.Ytnkndnpnjbcaoaa.Pure
