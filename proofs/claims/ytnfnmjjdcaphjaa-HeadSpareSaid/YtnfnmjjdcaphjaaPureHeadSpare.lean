/- What is proved here: the pure statement of HeadSpare: bytes 0 behind a body make no other page; one byte that is none does. Conditions: sizes within the form's reach. -/
import Derived.Test.YtnfnmjjdcaphjaaStmtHeadSpare
import Derived.Test.YtnfnmjjdcaphjaaSpec3
set_option linter.unusedVariables false
set_option linter.unusedSimpArgs false
namespace Go.Proofs.Ytnfnmjjdcaphjaa.Pure
open Go.RowKit Go.Proofs.YtnfnmjjdcaphjaaW.PrintWords Go.Proofs.YtnfnmjjdcaphjaaW.PrintLast Go.Proofs.YtnfnmjjdcaphjaaW.PrintMore Go.Proofs.YtnfnmjjdcaphjaaEv Go.Proofs.YtnfnmjjdcaphjaaSum Go.Proofs.YtnfnmjjdcaphjaaHead Go.Proofs.Ytnfnmjjdcaphjaa.P Go.Proofs.Ytnfnmjjdcaphjaa.Spec

theorem rest_one {b : List UInt8} {m P : Nat} (h : b.length + m + 1 + 16 ≤ P) : rest (b ++ List.replicate m 0 ++ [1]) P ≠ rest b P := by
  intro e
  have h1 := congrArg (fun l : List UInt8 => l[b.length + m]?) e
  have hl : (b ++ List.replicate m (0 : UInt8)).length = b.length + m := by simp
  have e1 : (rest (b ++ List.replicate m 0 ++ [1]) P)[b.length + m]? = some 1 := by
    unfold rest
    rw [List.append_assoc, List.getElem?_append_right (by omega), hl]
    simp
  have e2 : (rest b P)[b.length + m]? = some 0 := by
    unfold rest
    rw [List.getElem?_append_right (by omega), List.getElem?_replicate, if_pos (by omega)]
  simp only [e1, e2] at h1
  revert h1
  decide
set_option maxHeartbeats 1000000 in
theorem HeadSpare : withylaw07_HeadSpare.Pure := by
  intro ⟨a0, a1, a2, a3, a4⟩ ⟨b, p⟩ n hx hy hn
  have hn8 := wf_u8 hn
  have mb := mn_eq (b.size : Int) 1100
  have m1 : (mn (b.size : Int) 1100).toNat = min b.size 1100 := by omega
  refine Ev.rounds ?_
  show Ev (fun k => withylaw07_HeadSpare.f k a0 a1 a2 a3 a4 b p n) true
  unfold withylaw07_HeadSpare.f
  rw [m1]
  refine ev_pos (by omega) (ev_pos (by omega) ?_)
  generalize b.extract 0 (min b.size 1100) = c
  refine ev_bind (seal_ev a0 a1 a2 a3 a4 c p) ?_
  by_cases hc : head_may.code a0 a1 a2 a3 a4 c p = 0
  · obtain ⟨x, P, ok, rfl, rfl, rfl, rfl, rfl, rfl, hP, hb⟩ := code_zero hc
    rw [sealed_of ok hP hb]
    have hcl := L_length c
    have h16 := size16 hP
    obtain ⟨m, hm, hmP⟩ : ∃ m : Nat, mn (wrap64 n) (wrap64 (wrap64 ((P : Int) - 16) - (c.size : Int))) = (m : Int) ∧ c.size + m + 16 ≤ P := by
      have := mn_eq n ((P : Int) - 16 - (c.size : Int))
      rw [w64 (x := n) (by omega) (by omega), w64 (x := (P : Int) - 16) (by omega) (by omega), w64 (x := (P : Int) - 16 - (c.size : Int)) (by omega) (by omega)]
      exact ⟨(mn n ((P : Int) - 16 - (c.size : Int))).toNat, by omega, by omega⟩
    rw [hm]
    have zm := repB_size 0 m
    have e2 := sealed_of ok (b := c ++ repB 0 m) hP (by rw [ByteArray.size_append]; omega)
    have hpg : pageB x (L (c ++ repB 0 m)) P = pageB x (L c) P := by
      refine L_inj ?_
      rw [pageB_L, pageB_L, L_append, repB_L]
      exact page_of_rest (rest_zeros (L c) m P (by omega))
    rw [hpg] at e2
    refine ev_pos rfl (ev_bind (rrepeat_ev 0 m (by omega)) (ev_pos (by omega) (ev_bind (seal_ev x.k x.l x.c x.r x.s (c ++ repB 0 m) P) ?_)))
    rw [e2]
    refine ev_pos rfl (ev_step ?_)
    simp only [withylaw07_HeadSpare.j0]
    refine ev_neg (by simp) ?_
    by_cases h0 : m = 0
    · exact ev_pos (by omega) (ev_bind fixed_ev ev_some)
    · refine ev_neg (by omega) ?_
      rw [w64 (x := (m : Int) - 1) (by omega) (by omega), show (m : Int) - 1 = ((m - 1 : Nat) : Int) by omega]
      have zm1 := repB_size 0 (m - 1)
      have z1 : (⟨#[1]⟩ : ByteArray).size = 1 := rfl
      have s1 : (c ++ repB 0 (m - 1)).size = c.size + (m - 1) := by rw [ByteArray.size_append, zm1]
      have r1 := rrepeat_ev 0 (m - 1) (by omega)
      have l1 := repB_L 0 (m - 1)
      generalize repB 0 (m - 1) = y at zm1 s1 r1 l1
      have e3 := sealed_of ok (b := (c ++ y) ++ ⟨#[1]⟩) hP (by rw [ByteArray.size_append]; omega)
      refine ev_bind r1 (ev_pos (by omega) (ev_pos (by omega) (ev_bind (seal_ev x.k x.l x.c x.r x.s ((c ++ y) ++ ⟨#[1]⟩) P) ?_)))
      rw [e3]
      refine ev_pos rfl (ev_neg ?_ (ev_bind fixed_ev ev_some))
      rw [L_toList, L_toList, pageB_L, pageB_L]
      intro e
      have hr := (page_inj ok ok e).2
      rw [L_append, L_append, l1] at hr
      exact rest_one (b := L c) (m := m - 1) (by omega) hr
  · rw [sealed_not hc]
    exact ev_neg hc (ev_pos (by rw [L_toList]) (ev_bind fixed_ev ev_some))
end Go.Proofs.Ytnfnmjjdcaphjaa.Pure
