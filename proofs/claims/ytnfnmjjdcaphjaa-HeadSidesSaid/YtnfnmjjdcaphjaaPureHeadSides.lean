/- What is proved here: the pure statement of HeadSides: heads that are unlike in anything, or bodies, have unlike pages. Conditions: sizes within the form's reach. -/
import Derived.Test.YtnfnmjjdcaphjaaStmtHeadSides
import Derived.Test.YtnfnmjjdcaphjaaSpec3
set_option linter.unusedVariables false
set_option linter.unusedSimpArgs false
namespace Go.Proofs.Ytnfnmjjdcaphjaa.Pure
open Go.RowKit Go.Proofs.YtnfnmjjdcaphjaaW.PrintWords Go.Proofs.YtnfnmjjdcaphjaaW.PrintLast Go.Proofs.YtnfnmjjdcaphjaaW.PrintMore Go.Proofs.YtnfnmjjdcaphjaaEv Go.Proofs.YtnfnmjjdcaphjaaSum Go.Proofs.YtnfnmjjdcaphjaaHead Go.Proofs.Ytnfnmjjdcaphjaa.P Go.Proofs.Ytnfnmjjdcaphjaa.Spec

theorem code_right (a0 a1 a2 a3 a4 : Int) (b : ByteArray) (hb : b.size = 112) : head_may.code a0 a1 a2 a3 a4 b 128 = if head_may.right a0 a1 a2 a3 a4 = true then 0 else 3 := by
  have h1 : head_may.sized 128 = true := rfl
  unfold head_may.code
  rw [if_pos h1]
  by_cases h2 : head_may.right a0 a1 a2 a3 a4 = true
  · rw [if_pos h2, if_pos h2, if_neg (by omega)]
  · rw [if_neg h2, if_neg h2]
theorem rest_full (b : List UInt8) (h : b.length = 112) : rest b 128 = b := by
  unfold rest
  rw [h]
  exact List.append_nil b
theorem HeadSides : withylaw07_HeadSides.Pure := by
  intro ⟨a0, a1, a2, a3, a4⟩ ⟨b0, b1, b2, b3, b4⟩ ⟨u, v⟩ hx hy hz
  have mu := mn_eq (u.size : Int) 112
  have mv := mn_eq (v.size : Int) 112
  have m1 : (mn (u.size : Int) 112).toNat = min u.size 112 := by omega
  have m2 : (mn (v.size : Int) 112).toNat = min v.size 112 := by omega
  refine Ev.rounds ?_
  show Ev (fun k => withylaw07_HeadSides.f k a0 a1 a2 a3 a4 b0 b1 b2 b3 b4 u v) true
  unfold withylaw07_HeadSides.f
  rw [m1, m2]
  have hu : (u.extract 0 (min u.size 112)).size ≤ 112 := by rw [size_extract]; omega
  have hv : (v.extract 0 (min v.size 112)).size ≤ 112 := by rw [size_extract]; omega
  refine ev_pos (by omega) (ev_pos (by omega) (ev_pos (by omega) (ev_pos (by omega) ?_)))
  generalize u.extract 0 (min u.size 112) = c at hu ⊢
  generalize v.extract 0 (min v.size 112) = d at hv ⊢
  have ru := rrepeat_ev 0 (112 - c.size) (by omega)
  have rv := rrepeat_ev 0 (112 - d.size) (by omega)
  have wu : wrap64 (112 - (c.size : Int)) = ((112 - c.size : Nat) : Int) := by rw [w64 (by omega) (by omega)]; omega
  have wv : wrap64 (112 - (d.size : Int)) = ((112 - d.size : Nat) : Int) := by rw [w64 (by omega) (by omega)]; omega
  have zu := repB_size 0 (112 - c.size)
  have zv := repB_size 0 (112 - d.size)
  generalize repB 0 (112 - c.size) = x at ru zu
  generalize repB 0 (112 - d.size) = y at rv zv
  have su : (c ++ x).size = 112 := by rw [ByteArray.size_append]; omega
  have sv : (d ++ y).size = 112 := by rw [ByteArray.size_append]; omega
  have cu := code_right a0 a1 a2 a3 a4 _ su
  have cv := code_right b0 b1 b2 b3 b4 _ sv
  rw [wu, wv]
  refine ev_bind ru (ev_pos (by omega) (ev_bind (seal_ev a0 a1 a2 a3 a4 (c ++ x) 128) (ev_bind rv (ev_pos (by omega) (ev_bind (seal_ev b0 b1 b2 b3 b4 (d ++ y) 128) ?_)))))
  have hno : ∀ (p q : ByteArray), (head_may.right a0 a1 a2 a3 a4 = false ∨ head_may.right b0 b1 b2 b3 b4 = false) → Ev (fun k => withylaw07_HeadSides.j0 k c d p q true a0 a1 a2 a3 a4 b0 b1 b2 b3 b4) true := by
    intro p q h
    refine ev_step ?_
    simp only [withylaw07_HeadSides.j0]
    refine ev_pos (by first | rfl | trivial) (ev_bind (right_ev _ _ _ _ _) ?_)
    by_cases h1 : head_may.right a0 a1 a2 a3 a4 = true
    · refine ev_pos h1 (ev_bind (right_ev _ _ _ _ _) (ev_neg ?_ (ev_bind fixed_ev ev_some)))
      rcases h with h | h
      · rw [h1] at h; cases h
      · rw [h]; decide
    · exact ev_neg h1 (ev_bind fixed_ev ev_some)
  by_cases h1 : head_may.right a0 a1 a2 a3 a4 = true
  · rw [if_pos h1] at cu
    by_cases h2 : head_may.right b0 b1 b2 b3 b4 = true
    · rw [if_pos h2] at cv
      obtain ⟨f, P, okf, rfl, rfl, rfl, rfl, rfl, eP, hP, hb⟩ := code_zero cu
      obtain ⟨g, Q, okg, rfl, rfl, rfl, rfl, rfl, eQ, hQ, hd⟩ := code_zero cv
      obtain rfl : P = 128 := by omega
      obtain rfl : Q = 128 := by omega
      have e1 := sealed_of okf hP hb
      have e2 := sealed_of okg hQ hd
      have lu := L_length (c ++ x)
      have lv := L_length (d ++ y)
      rw [show ((128 : Nat) : Int) = 128 from rfl] at e1 e2
      rw [e1, e2]
      refine ev_pos rfl (ev_step ?_)
      simp only [withylaw07_HeadSides.j0]
      refine ev_neg (by decide) ?_
      rw [wu, wv]
      by_cases hfg : f = g
      · subst hfg
        refine ev_pos (by simp) (ev_bind ru (ev_pos (by omega) (ev_bind rv (ev_pos (by omega) (ev_pos ?_ (ev_bind fixed_ev ev_some))))))
        rw [L_toList, L_toList, L_toList, L_toList, pageB_L, pageB_L]
        by_cases hh : L (c ++ x) = L (d ++ y)
        · rw [hh]; simp
        · have hp : ¬ page f (L (c ++ x)) 128 = page f (L (d ++ y)) 128 := fun e => hh (by
            have := (page_inj okf okf e).2
            rw [rest_full _ (by omega), rest_full _ (by omega)] at this
            exact this)
          have q1 : (page f (L (c ++ x)) 128 == page f (L (d ++ y)) 128) = false := by simpa using hp
          have q2 : (L (c ++ x) == L (d ++ y)) = false := by simpa using hh
          rw [q1, q2]
          rfl
      · refine ev_neg ?_ (ev_pos ?_ (ev_bind fixed_ev ev_some))
        · intro e
          apply hfg
          cases f
          cases g
          simp at e
          simp
          omega
        · rw [L_toList, L_toList, pageB_L, pageB_L]
          have hp : ¬ page f (L (c ++ x)) 128 = page g (L (d ++ y)) 128 := fun e => hfg (page_inj okf okg e).1
          have q1 : (page f (L (c ++ x)) 128 == page g (L (d ++ y)) 128) = false := by simpa using hp
          rw [q1]
          rfl
    · rw [if_neg h2] at cv
      have e2 := sealed_not (a0 := b0) (a1 := b1) (a2 := b2) (a3 := b3) (a4 := b4) (b := d ++ y) (p := 128) (by omega)
      rw [e2, cv]
      have hx := hno (sealed a0 a1 a2 a3 a4 (c ++ x) 128).1 ⟨#[]⟩ (.inr (by simpa using h2))
      by_cases h3 : (sealed a0 a1 a2 a3 a4 (c ++ x) 128).2 = 0
      · exact ev_pos h3 hx
      · exact ev_neg h3 hx
  · rw [if_neg h1] at cu
    have e1 := sealed_not (a0 := a0) (a1 := a1) (a2 := a2) (a3 := a3) (a4 := a4) (b := c ++ x) (p := 128) (by omega)
    rw [e1, cu]
    exact ev_neg (by decide) (hno _ _ (.inl (by simpa using h1)))
end Go.Proofs.Ytnfnmjjdcaphjaa.Pure
