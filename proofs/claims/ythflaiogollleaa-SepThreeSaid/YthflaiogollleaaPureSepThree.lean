/- What is proved here: the pure statement of SepThree: of three texts that rise the outer two have in common what the first two, or the last two, have, whichever is less. Conditions: sizes within the form's reach. -/
import Derived.Test.YthflaiogollleaaStmtSepThree
import Derived.Test.YthflaiogollleaaSpec2
set_option linter.unusedVariables false
set_option linter.unusedSimpArgs false
namespace Go.Proofs.Ythflaiogollleaa.Pure
open Go.RowKit Go.Proofs.YthflaiogollleaaW.PrintWords Go.Proofs.YthflaiogollleaaW.PrintLast Go.Proofs.YthflaiogollleaaW.PrintMore Go.Proofs.YthflaiogollleaaEv Go.Proofs.YthflaiogollleaaMath Go.Proofs.Ythflaiogollleaa.P Go.Proofs.Ythflaiogollleaa.Spec

theorem parts_yes {a b : ByteArray} (h : lt (L a) (L b) = true) : parts a b = (b.extract 0 (cp (L a) (L b) + 1), 0) := by unfold parts; rw [if_pos h]
theorem parts_no {a b : ByteArray} (h : lt (L a) (L b) = false) : parts a b = (⟨#[]⟩, 1) := by unfold parts; rw [if_neg (not_true_of h)]

theorem three_no (a b c : ByteArray) (ha : a.size ≤ 60) (hb : b.size ≤ 60) : Ev (fun k => withylaw05_SepThree.j0 k a b c true) true := by
  have hend : ∀ x y : ByteArray, x.size ≤ 60 → y.size ≤ 60 → lt (L x) (L y) = false → Ev (fun k => (sep_Least.f k x y).bind fun bt => if bt.2 = 0 then none else (withylaw05_fixed.f k).bind fun t => some t) true := by
    intro x y hx hy h
    refine ev_bind (sleast_ev x y (by omega) (by omega)) ?_
    rw [parts_no h]
    exact ev_neg (by decide) (ev_bind fixed_ev ev_some)
  refine ev_step ?_
  simp only [withylaw05_SepThree.j0, L_toList]
  refine ev_pos trivial ?_
  cases h : lt (L a) (L b)
  · refine ev_neg (by show ¬ lt (L a) (L b) = true; exact not_true_of h) ?_
    cases h' : lt (L b) (L a)
    · exact ev_neg (by show ¬ lt (L b) (L a) = true; exact not_true_of h') (hend a a ha ha (lt_irrefl _))
    · exact ev_pos h' (hend a b ha hb h)
  · refine ev_pos h (ev_neg (by show ¬ lt (L b) (L a) = true; exact not_true_of (lt_asymm h)) (hend b a hb ha (lt_asymm h)))

theorem three_yes (a b c : ByteArray) (ha : a.size ≤ 60) (hb : b.size ≤ 60) (hc : c.size ≤ 60) (h : lt (L a) (L b) = true) (k : lt (L b) (L c) = true) : Ev (fun k => withylaw05_SepThree.j0 k a b c false) true := by
  have hac := lt_trans h k
  have h3 := cp_three h k
  have l1 := cp_lt_of_lt h
  have l2 := cp_lt_of_lt k
  have l3 := cp_lt_of_lt hac
  rw [L_length] at l1 l2 l3
  refine ev_step ?_
  simp only [withylaw05_SepThree.j0]
  refine ev_neg (by decide) ?_
  refine ev_bind (sleast_ev a b (by omega) (by omega)) (ev_bind (sleast_ev b c (by omega) (by omega)) (ev_bind (sleast_ev a c (by omega) (by omega)) ?_))
  rw [parts_yes h, parts_yes k, parts_yes hac]
  refine ev_bind (common_ev a b (by omega) (by omega)) (ev_bind (common_ev b c (by omega) (by omega)) ?_)
  dsimp only
  have e1 : (b.extract 0 (cp (L a) (L b) + 1)).size = cp (L a) (L b) + 1 := by rw [size_extract]; omega
  have e2 : (c.extract 0 (cp (L b) (L c) + 1)).size = cp (L b) (L c) + 1 := by rw [size_extract]; omega
  have e3 : (c.extract 0 (cp (L a) (L c) + 1)).size = cp (L a) (L c) + 1 := by rw [size_extract]; omega
  have em : mn (cp (L a) (L b) : Int) (cp (L b) (L c) : Int) = ((cp (L a) (L c) : Nat) : Int) := by rw [mn_eq]; omega
  rw [e1, e2, e3, em, mn_eq]
  refine ev_pos rfl (ev_pos rfl (ev_pos rfl (ev_bind (common_ev a c (by omega) (by omega)) (ev_pos rfl ?_))))
  rw [w64_succ (by omega)]
  refine ev_pos rfl (ev_pos (by omega) (ev_pos (by omega) (ev_pos (by omega) ?_)))
  rw [Int.toNat_natCast]
  refine ev_bind (words_ev _ _ (by simp)) (ev_pos (decide_eq_true rfl) (ev_bind fixed_ev ev_some))

theorem SepThree : withylaw05_SepThree.Pure := by
  intro x _
  have m0 := mn_eq (x.f0.size : Int) 60
  have m1 := mn_eq (x.f1.size : Int) 60
  have m2 := mn_eq (x.f2.size : Int) 60
  have s0 := cut60_size x.f0
  have s1 := cut60_size x.f1
  have s2 := cut60_size x.f2
  refine Ev.rounds ?_
  unfold withylaw05_SepThree.f
  rw [mn60, mn60, mn60]
  have e0 : x.f0.extract 0 (min x.f0.size 60) = cut60 x.f0 := rfl
  have e1 : x.f1.extract 0 (min x.f1.size 60) = cut60 x.f1 := rfl
  have e2 : x.f2.extract 0 (min x.f2.size 60) = cut60 x.f2 := rfl
  simp only [e0, e1, e2, L_toList]
  refine ev_pos (by omega) (ev_pos (by omega) (ev_pos (by omega) (ev_pos (by omega) (ev_pos (by omega) (ev_pos (by omega) ?_)))))
  cases h : lt (L (cut60 x.f0)) (L (cut60 x.f1))
  · exact ev_neg (by show ¬ lt (L (cut60 x.f0)) (L (cut60 x.f1)) = true; exact not_true_of h) (three_no _ _ _ (by omega) (by omega))
  · refine ev_pos h ?_
    cases k : lt (L (cut60 x.f1)) (L (cut60 x.f2))
    · have k' : Op.bytesLess (L (cut60 x.f1)) (L (cut60 x.f2)) = false := k
      rw [k']
      exact three_no _ _ _ (by omega) (by omega)
    · have k' : Op.bytesLess (L (cut60 x.f1)) (L (cut60 x.f2)) = true := k
      rw [k']
      exact three_yes _ _ _ (by omega) (by omega) (by omega) h k
end Go.Proofs.Ythflaiogollleaa.Pure
