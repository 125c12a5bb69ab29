/- What is proved here: the pure statement of HeadBack: a page is opened as it was sealed; what is opened is what is sealed of that. Conditions: sizes within the form's reach. -/
import Derived.Test.YtnfnmjjdcaphjaaStmtHeadBack
import Derived.Test.YtnfnmjjdcaphjaaSpec3
set_option linter.unusedVariables false
set_option linter.unusedSimpArgs false
namespace Go.Proofs.Ytnfnmjjdcaphjaa.Pure
open Go.RowKit Go.Proofs.YtnfnmjjdcaphjaaW.PrintWords Go.Proofs.YtnfnmjjdcaphjaaW.PrintLast Go.Proofs.YtnfnmjjdcaphjaaW.PrintMore Go.Proofs.YtnfnmjjdcaphjaaEv Go.Proofs.YtnfnmjjdcaphjaaSum Go.Proofs.YtnfnmjjdcaphjaaHead Go.Proofs.Ytnfnmjjdcaphjaa.P Go.Proofs.Ytnfnmjjdcaphjaa.Spec

theorem back_ev (t : ByteArray) (hsz : t.size ≤ 140737488300000) : Ev (fun k => withylaw07_HeadBack.j0 k t) true := by
  refine ev_step ?_
  simp only [withylaw07_HeadBack.j0]
  refine ev_bind (open_ev t hsz) ?_
  by_cases hp : isPage t
  · rw [opened_page hp]
    refine ev_pos rfl (ev_bind (seal_ev (got (L t)).k (got (L t)).l (got (L t)).c (got (L t)).r (got (L t)).s (body t) t.size) ?_)
    rcases sealed_got hp.1 with ⟨_, e⟩ | ⟨h, _⟩
    · rw [e]
      have hr : head_may.right (got (L t)).k (got (L t)).l (got (L t)).c (got (L t)).r (got (L t)).s = true := (right_iff _ _ _ _ _).2 (by have := hp.2.1; unfold Hd.ok at this; omega)
      exact ev_pos rfl (ev_pos rfl (ev_bind (right_ev _ _ _ _ _) (ev_pos hr (ev_bind fixed_ev ev_some))))
    · exact absurd hp h
  · rw [opened_none hp]
    exact ev_neg (by decide) (ev_pos rfl (ev_pos rfl (ev_pos (by show (⟨#[]⟩ : ByteArray).toList = []; rw [L_toList]) (ev_bind fixed_ev ev_some))))
theorem HeadBack : withylaw07_HeadBack.Pure := by
  intro ⟨a0, a1, a2, a3, a4⟩ ⟨b, p⟩ s hx hy hz
  have mb := mn_eq (b.size : Int) 1100
  have ms := mn_eq (s.size : Int) 1100
  have m1 : (mn (b.size : Int) 1100).toNat = min b.size 1100 := by omega
  have m2 : (mn (s.size : Int) 1100).toNat = min s.size 1100 := by omega
  refine Ev.rounds ?_
  show Ev (fun k => withylaw07_HeadBack.f k a0 a1 a2 a3 a4 b p s) true
  unfold withylaw07_HeadBack.f
  rw [m1, m2]
  have hsz : (s.extract 0 (min s.size 1100)).size ≤ 140737488300000 := by rw [size_extract]; omega
  refine ev_pos (by omega) (ev_pos (by omega) (ev_pos (by omega) (ev_pos (by omega) ?_)))
  generalize b.extract 0 (min b.size 1100) = c
  generalize s.extract 0 (min s.size 1100) = t at hsz ⊢
  refine ev_bind (seal_ev a0 a1 a2 a3 a4 c p) ?_
  by_cases hc : head_may.code a0 a1 a2 a3 a4 c p = 0
  · obtain ⟨x, P, ok, rfl, rfl, rfl, rfl, rfl, rfl, hP, hb⟩ := code_zero hc
    rw [sealed_of ok hP hb]
    have hcl := L_length c
    have h16 := size16 hP
    have hz := pageB_size (h := x) (b := L c) (p := P) (by omega)
    have ho := open_ev (pageB x (L c) P) (by omega)
    rw [opened_of ok hP (by omega)] at ho
    have hrl : (⟨(rest (L c) P).toArray⟩ : ByteArray).size = P - 16 := by rw [size_mk, rest_length (by omega)]
    have hrL : L (⟨(rest (L c) P).toArray⟩ : ByteArray) = L c ++ List.replicate (P - 16 - c.size) 0 := by rw [L_mk, rest, hcl]
    generalize (⟨(rest (L c) P).toArray⟩ : ByteArray) = r at ho hrl hrL
    have mr := mn_eq (c.size : Int) (r.size : Int)
    have mr' : (mn (c.size : Int) (r.size : Int)).toNat = c.size := by omega
    refine ev_pos rfl (ev_bind ho (ev_pos (by show ((pageB x (L c) P).size : Int) = (P : Int); omega) (ev_pos rfl (ev_neg ?_ ?_))))
    · show ¬ (!((x.k : Int) == (x.k : Int)) || (!((x.l : Int) == (x.l : Int)) || (!((x.c : Int) == (x.c : Int)) || (!((x.r : Int) == (x.r : Int)) || (!((x.s : Int) == (x.s : Int))))))) = true
      simp
    · show Ev (fun k => if (r.size : Int) = wrap64 ((P : Int) - 16) then _ else _) true
      rw [w64 (x := (P : Int) - 16) (by omega) (by omega), w64 (x := (P : Int) - 16 - (c.size : Int)) (by omega) (by omega), show (P : Int) - 16 - (c.size : Int) = ((P - 16 - c.size : Nat) : Int) by omega]
      refine ev_pos (by omega) (ev_pos (by show 0 ≤ mn (c.size : Int) (r.size : Int); omega) (ev_pos (by show mn (c.size : Int) (r.size : Int) ≤ (r.size : Int); omega) (ev_pos ?_ (ev_bind (rrepeat_ev 0 _ (by omega)) (ev_pos (by rw [repB_size]; omega) (ev_pos ?_ (back_ev t hsz)))))))
      · show (r.extract 0 (mn (c.size : Int) (r.size : Int)).toNat).toList = c.toList
        rw [mr', L_toList, L_toList, L_to, hrL, List.take_left' hcl]
      · show r.toList = (c ++ repB 0 (P - 16 - c.size)).toList
        rw [L_toList, L_toList, L_append, repB_L, hrL]
        rfl
  · rw [sealed_not hc]
    exact ev_neg hc (back_ev t hsz)
end Go.Proofs.Ytnfnmjjdcaphjaa.Pure
