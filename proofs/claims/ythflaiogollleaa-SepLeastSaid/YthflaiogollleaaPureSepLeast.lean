/- What is proved here: the pure statement of SepLeast: the least text that parts two parts them, and nothing shorter does. Conditions: sizes within the form's reach. -/
import Derived.Test.YthflaiogollleaaStmtSepLeast
import Derived.Test.YthflaiogollleaaSpec2
set_option linter.unusedVariables false
set_option linter.unusedSimpArgs false
namespace Go.Proofs.Ythflaiogollleaa.Pure
open Go.RowKit Go.Proofs.YthflaiogollleaaW.PrintWords Go.Proofs.YthflaiogollleaaW.PrintLast Go.Proofs.YthflaiogollleaaW.PrintMore Go.Proofs.YthflaiogollleaaEv Go.Proofs.YthflaiogollleaaMath Go.Proofs.Ythflaiogollleaa.P Go.Proofs.Ythflaiogollleaa.Spec

theorem least_rest (a b : ByteArray) (ha : a.size ≤ 60) (hb : b.size ≤ 60) (h : lt (L a) (L b) = true) : Ev (fun k => withylaw05_SepLeast.j0 k a b (b.extract 0 (cp (L a) (L b) + 1)) false) true := by
  have h1 := cp_lt_of_lt h
  rw [L_length] at h1
  have hsz : (b.extract 0 (cp (L a) (L b) + 1)).size = cp (L a) (L b) + 1 := by rw [size_extract]; omega
  refine ev_step ?_
  simp only [withylaw05_SepLeast.j0, L_toList]
  rw [hsz, w64 (by omega) (by omega)]
  refine ev_neg (by simp) (ev_pos (by omega) (ev_pos (by omega) (ev_neg ?_ ?_)))
  · exact not_true_of (by rw [L_to, L_to, List.take_take]; exact not_lt_take_le (by omega))
  · refine ev_bind (common_ev a b (by omega) (by omega)) (ev_pos (by omega) (ev_bind (common_ev _ b (by omega) (by omega)) (ev_pos ?_ (ev_bind fixed_ev ev_some))))
    rw [L_to]
    have h2 : cp (L a) (L b) + 1 ≤ cp ((L b).take (cp (L a) (L b) + 1)) (L b) := (cp_ge_iff _ _ _).2 ⟨by rw [List.length_take, L_length]; omega, by rw [L_length]; omega, by rw [List.take_take, Nat.min_self]⟩
    have h3 := cp_le_left ((L b).take (cp (L a) (L b) + 1)) (L b)
    rw [List.length_take] at h3
    omega

theorem SepLeast : withylaw05_SepLeast.Pure := by
  intro a b _ _
  have ma := mn_eq (a.size : Int) 60
  have mb := mn_eq (b.size : Int) 60
  have ha := cut60_size a
  have hb := cut60_size b
  refine Ev.rounds ?_
  unfold withylaw05_SepLeast.f
  rw [mn60, mn60]
  have ea : a.extract 0 (min a.size 60) = cut60 a := rfl
  have eb : b.extract 0 (min b.size 60) = cut60 b := rfl
  simp only [ea, eb, L_toList]
  refine ev_pos (by omega) (ev_pos (by omega) (ev_pos (by omega) (ev_pos (by omega) ?_)))
  clear ea eb
  generalize cut60 a = a' at *
  generalize cut60 b = b' at *
  refine ev_bind (sleast_ev a' b' (by omega) (by omega)) ?_
  unfold parts
  by_cases h : lt (L a') (L b') = true
  · have h1 := cp_lt_of_lt h
    rw [L_length] at h1
    have hsz : (b'.extract 0 (cp (L a') (L b') + 1)).size = cp (L a') (L b') + 1 := by rw [size_extract]; omega
    rw [if_pos h]
    dsimp only
    rw [hsz]
    refine ev_pos h (ev_pos rfl (ev_neg (by omega) (ev_neg (by omega) (ev_pos (by omega) (ev_pos (by omega) (ev_pos rfl ?_))))))
    have e1 : Op.bytesLess (L a') (L (b'.extract 0 (cp (L a') (L b') + 1))) = true := by rw [L_to]; exact lt_take_succ h
    have e2 : Op.bytesLess (L b') (L (b'.extract 0 (cp (L a') (L b') + 1))) = false := by rw [L_to]; exact not_lt_take _ _
    refine ev_pos e1 ?_
    rw [e2]
    exact least_rest a' b' (by omega) (by omega) h
  · rw [if_neg h]
    dsimp only
    exact ev_neg h (ev_pos rfl (ev_pos rfl (ev_bind fixed_ev ev_some)))
end Go.Proofs.Ythflaiogollleaa.Pure
