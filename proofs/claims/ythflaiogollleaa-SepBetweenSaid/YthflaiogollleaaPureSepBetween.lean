/- What is proved here: the pure statement of SepBetween: what stands between two texts has in common with both what these have. Conditions: sizes within the form's reach. -/
import Derived.Test.YthflaiogollleaaStmtSepBetween
import Derived.Test.YthflaiogollleaaSpec2
set_option linter.unusedVariables false
set_option linter.unusedSimpArgs false
namespace Go.Proofs.Ythflaiogollleaa.Pure
open Go.RowKit Go.Proofs.YthflaiogollleaaW.PrintWords Go.Proofs.YthflaiogollleaaW.PrintLast Go.Proofs.YthflaiogollleaaW.PrintMore Go.Proofs.YthflaiogollleaaEv Go.Proofs.YthflaiogollleaaMath Go.Proofs.Ythflaiogollleaa.P Go.Proofs.Ythflaiogollleaa.Spec

theorem SepBetween : withylaw05_SepBetween.Pure := by
  intro a b s _ _ _
  have ma := mn_eq (a.size : Int) 60
  have mb := mn_eq (b.size : Int) 60
  have ms := mn_eq (s.size : Int) 60
  have ha := cut60_size a
  have hb := cut60_size b
  have hs := cut60_size s
  refine Ev.rounds ?_
  unfold withylaw05_SepBetween.f
  rw [mn60, mn60, mn60]
  refine ev_pos (by omega) (ev_pos (by omega) (ev_pos (by omega) (ev_pos (by omega) (ev_pos (by omega) (ev_pos (by omega) ?_)))))
  refine ev_bind_now (between_eq (cut60 s) (cut60 a) (cut60 b) true) ?_
  simp only [L_toList]
  cases h : lt (L (cut60 s)) (L (cut60 a))
  · cases k : lt (L (cut60 s)) (L (cut60 b))
    · refine ev_neg (by simp) (ev_neg (by show ¬ lt (L (cut60 s)) (L (cut60 a)) = true; rw [h]; exact Bool.false_ne_true) (ev_neg (by show ¬ lt (L (cut60 s)) (L (cut60 b)) = true; rw [k]; exact Bool.false_ne_true) (ev_bind fixed_ev ev_some)))
    · have k' := le_of_lt k
      have c1 := cp_between h k'
      have c2 := cp_between' h k'
      refine ev_pos (by simp) ?_
      refine ev_bind (common_ev (cut60 a) (cut60 b) (by omega) (by omega)) ?_
      refine ev_neg (by show ¬ lt (L (cut60 s)) (L (cut60 a)) = true; rw [h]; exact Bool.false_ne_true) (ev_pos k ?_)
      refine ev_bind (common_ev (cut60 s) (cut60 a) (by omega) (by omega)) (ev_pos (by rw [cp_comm (L (cut60 s))]; omega) ?_)
      refine ev_bind (common_ev (cut60 s) (cut60 b) (by omega) (by omega)) (ev_pos (by omega) ?_)
      refine ev_bind (span_ev [cut60 a, cut60 s, cut60 b] (fun t ht => by
        simp only [List.mem_cons, List.not_mem_nil, or_false] at ht
        rcases ht with rfl | rfl | rfl <;> omega) (by simp)) (ev_pos ?_ (ev_bind fixed_ev ev_some))
      have h2 := cp_le_left (L (cut60 a)) (L (cut60 b))
      simp only [List.map_cons, List.map_nil, span, spanFrom]
      omega
  · exact ev_neg (by simp) (ev_pos h (ev_bind fixed_ev ev_some))
end Go.Proofs.Ythflaiogollleaa.Pure
