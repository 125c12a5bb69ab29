/- What is proved here: the law's fixed calls answer as they are fixed. Conditions: none. -/
import Derived.Test.YtnfnmjjdcaphjaaSpec3
set_option linter.unusedVariables false
set_option linter.unusedSimpArgs false
namespace Go.Proofs.Ytnfnmjjdcaphjaa.Spec
open Go.RowKit Go.Proofs.YtnfnmjjdcaphjaaW.PrintWords Go.Proofs.YtnfnmjjdcaphjaaW.PrintLast Go.Proofs.YtnfnmjjdcaphjaaW.PrintMore Go.Proofs.YtnfnmjjdcaphjaaEv Go.Proofs.YtnfnmjjdcaphjaaSum Go.Proofs.YtnfnmjjdcaphjaaHead Go.Proofs.Ytnfnmjjdcaphjaa.P

def x23 : Hd := ⟨2, 0, 0, 0, 3⟩
theorem x23_ok : x23.ok := by unfold Hd.ok x23; simp
theorem zero_not : ¬ isPage (zerosB 128) := by
  intro h
  have h1 := h.2.1.1
  rw [zerosB_L] at h1
  revert h1
  decide
theorem fixed_ev : Ev (fun k => withylaw07_fixed.f k) true := by
  unfold withylaw07_fixed.f
  have s0 : (⟨#[]⟩ : ByteArray).size = 0 := rfl
  have hP : Size 128 := .inl rfl
  have e1 := sealed_of x23_ok (b := ⟨#[]⟩) hP (by rw [s0]; omega)
  have z1 : (pageB x23 (L ⟨#[]⟩) 128).size = 128 := pageB_size (by rw [L_length, s0]; omega)
  have r113 := rrepeat_ev 1 113 (by omega)
  have q113 := repB_size 1 113
  have o1 := opened_of x23_ok (b := L ⟨#[]⟩) hP (by rw [L_length, s0]; omega)
  have hn : ¬ isPage ⟨#[]⟩ := fun h => by
    have := size16 h.1
    rw [s0] at this
    omega
  have c2 : head_may.code 2 0 0 0 3 ⟨#[]⟩ 100 = 4 := rfl
  have c3 : head_may.code 0 0 0 0 0 ⟨#[]⟩ 128 = 3 := rfl
  have c4 : head_may.code 2 0 0 0 3 (repB 1 113) 128 = 8 := by
    have h1 : head_may.sized 128 = true := rfl
    have h2 : head_may.right 2 0 0 0 3 = true := rfl
    unfold head_may.code
    rw [if_pos h1, if_pos h2, if_pos (by omega)]
  have c5 : head_may.code 0 0 0 0 0 (repB 1 113) 128 = 3 := by
    have h1 : head_may.sized 128 = true := rfl
    have h2 : ¬ head_may.right 0 0 0 0 0 = true := by decide
    unfold head_may.code
    rw [if_pos h1, if_neg h2]
  have v1 := seal_ev 2 0 0 0 3 ⟨#[]⟩ 128
  have e1' : sealed 2 0 0 0 3 ⟨#[]⟩ 128 = (pageB x23 (L ⟨#[]⟩) 128, 0) := e1
  rw [e1'] at v1
  have v2 := seal_ev 2 0 0 0 3 ⟨#[]⟩ 100
  rw [sealed_not (by rw [c2]; omega), c2] at v2
  have v3 := seal_ev 0 0 0 0 0 ⟨#[]⟩ 128
  rw [sealed_not (by rw [c3]; omega), c3] at v3
  have v4 := seal_ev 2 0 0 0 3 (repB 1 113) 128
  rw [sealed_not (by rw [c4]; omega), c4] at v4
  have v5 := seal_ev 0 0 0 0 0 (repB 1 113) 128
  rw [sealed_not (by rw [c5]; omega), c5] at v5
  have w1 := open_ev (pageB x23 (L ⟨#[]⟩) 128) (by omega)
  rw [o1] at w1
  have w2 := open_ev ⟨#[]⟩ (by rw [s0]; omega)
  rw [opened_none hn] at w2
  have w3 := open_ev (zerosB 128) (by rw [zerosB_size]; omega)
  rw [opened_none zero_not] at w3
  have g0 : bt (pageB x23 (L ⟨#[]⟩) 128) 0 = 2 := (bt_getD _ 0).trans (by rw [pageB_L]; rfl)
  have g8 : bt (pageB x23 (L ⟨#[]⟩) 128) 8 = 3 := (bt_getD _ 8).trans (by rw [pageB_L]; rfl)
  have hb : L ((pageB x23 (L ⟨#[]⟩) 128).extract 16 (pageB x23 (L ⟨#[]⟩) 128).size) = L (repB 0 112) := by
    rw [L_from, pageB_L, page_drop, repB_L]
    rfl
  have hb2 : (⟨(rest (L ⟨#[]⟩) 128).toArray⟩ : ByteArray) = repB 0 112 := L_inj (by rw [L_mk, repB_L]; rfl)
  have r112 := rrepeat_ev 0 112 (by omega)
  have r128 := rrepeat_ev 0 128 (by omega)
  rw [hb2] at w1
  generalize pageB x23 (L ⟨#[]⟩) 128 = pg at v1 w1 z1 g0 g8 hb
  generalize repB 0 112 = rz at w1 hb r112
  generalize repB 1 113 = ro at r113 v4 v5
  rw [repB_zero] at r128
  generalize zerosB 128 = rq at r128 w3
  refine ev_bind v1 (ev_bind v2 (ev_bind v3 (ev_bind r113 (ev_bind v4 (ev_bind r113 (ev_bind v5 (ev_bind w1 (ev_bind w2 (ev_bind r128 (ev_bind w3 ?_))))))))))
  refine ev_pos (by show (pg.size : Int) = 128; omega) (ev_pos rfl (ev_pos (by show (0 : Int) < (pg.size : Int); omega) (ev_pos g0 (ev_pos (by show (8 : Int) < (pg.size : Int); omega) (ev_pos g8 (ev_pos (by show (16 : Int) ≤ (pg.size : Int); omega) (ev_bind r112 (ev_pos (by rw [L_toList, L_toList]; exact hb) ?_))))))))
  refine ev_pos rfl (ev_pos rfl (ev_pos rfl (ev_pos rfl (ev_pos rfl (ev_bind r112 (ev_pos rfl (ev_pos rfl (ev_pos rfl (ev_pos rfl ?_)))))))))
  refine ev_bind (right_ev 2 0 0 0 3) (ev_pos rfl (ev_bind (right_ev 5 0 0 0 0) (ev_neg (by decide) ev_some)))
end Go.Proofs.Ytnfnmjjdcaphjaa.Spec
