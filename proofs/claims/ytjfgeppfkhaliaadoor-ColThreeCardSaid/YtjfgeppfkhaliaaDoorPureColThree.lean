/- What is proved here: the pure statement of ColThree: what is ahead of what is ahead is ahead. Conditions: none. -/
import Derived.Test.YtjfgeppfkhaliaaDoorStmtColThree
import Derived.Test.YtjfgeppfkhaliaaDoorCFixed
set_option linter.unusedVariables false
set_option linter.unusedSimpArgs false
namespace Go.Proofs.YtjfgeppfkhaliaaDoor.Pure
open Go.RowKit Go.Proofs.YtjfgeppfkhaliaaDoor.P Go.Proofs.YtjfgeppfkhaliaaDoorW.PrintWords Go.Proofs.YtjfgeppfkhaliaaDoorW.PrintLast Go.Proofs.YtjfgeppfkhaliaaDoorW.PrintMore Go.Proofs.YtjfgeppfkhaliaaDoorEv Go.Proofs.YtjfgeppfkhaliaaDoorCol Go.Proofs.YtjfgeppfkhaliaaDoor.Spec

theorem ccmp_self (a : Cl) : ccmp a a = 0 := by rcases ccmp_cases a a with ⟨h, k⟩ | ⟨h, _⟩ | ⟨h, k⟩ <;> omega
theorem ccmp_trans {a b c : Cl} (ra : Right a) (rb : Right b) (rc : Right c) (ba : Bd a) (bb : Bd b) (bc : Bd c) (h1 : ccmp a b ≤ 0) (h2 : ccmp b c ≤ 0) : ccmp a c ≤ 0 ∧ (ccmp a b = -1 → ccmp a c = -1) := by
  rcases ccmp_cases a b with ⟨h, _⟩ | ⟨h, _, rfl⟩ | ⟨h, _⟩
  · rcases ccmp_cases b c with ⟨k, _⟩ | ⟨k, _, rfl⟩ | ⟨k, _⟩
    · have l1 := (cput_before ra rb ba bb h).less
      have l2 := (cput_before rb rc bb bc k).less
      have l3 := Go.Proofs.YtjfgeppfkhaliaaDoorMath.lt_trans l1 l2
      rcases ccmp_cases a c with ⟨q, _⟩ | ⟨q, _, rfl⟩ | ⟨q, q2⟩
      · exact ⟨by omega, fun _ => q⟩
      · have l4 := Go.Proofs.YtjfgeppfkhaliaaDoorMath.lt_irrefl (cput a)
        rw [l4] at l3; cases l3
      · have l4 := (cput_before rc ra bc ba q2).less
        have l5 := Go.Proofs.YtjfgeppfkhaliaaDoorMath.lt_asymm l3
        rw [show Go.Proofs.YtjfgeppfkhaliaaDoorMath.lt (cput c) (cput a) = true from l4] at l5; cases l5
    · exact ⟨by omega, fun _ => h⟩
    · omega
  · exact ⟨h2, fun e => by omega⟩
  · omega
theorem same_eq (a b : Cl) : (a.kd == b.kd && (a.i == b.i && (a.u == b.u && (a.s == b.s)))) = decide (ccmp a b = 0) := by
  rcases ccmp_cases a b with ⟨h, _⟩ | ⟨h, _, e⟩ | ⟨h, _⟩
  · rw [h]
    have hne : a ≠ b := by rintro rfl; rw [ccmp_self] at h; omega
    rw [decide_eq_false (by omega)]
    by_cases q1 : a.kd = b.kd <;> by_cases q2 : a.i = b.i <;> by_cases q3 : a.u = b.u <;> by_cases q4 : a.s = b.s <;> simp [q1, q2, q3, q4]
    exact hne (Cl.ext' q1 q2 q3 q4)
  · subst e; rw [h]; simp
  · rw [h]
    have hne : a ≠ b := by rintro rfl; rw [ccmp_self] at h; omega
    rw [decide_eq_false (by omega)]
    by_cases q1 : a.kd = b.kd <;> by_cases q2 : a.i = b.i <;> by_cases q3 : a.u = b.u <;> by_cases q4 : a.s = b.s <;> simp [q1, q2, q3, q4]
    exact hne (Cl.ext' q1 q2 q3 q4)
theorem fin_ev : Ev (fun k => (withylaw03_fixed.f k).bind fun t => some t) true := ev_bind fixed_ev ev_some
theorem ColThree : withylaw03_ColThree.Pure := by
  intro x0 x1 x2 h0 h1 h2
  suffices h : Ev (fun k => withylaw03_ColThree.f k x0.f0 x0.f1 x0.f2 x0.f3 x1.f0 x1.f1 x1.f2 x1.f3 x2.f0 x2.f1 x2.f2 x2.f3) true by
    obtain ⟨K, hK⟩ := h; exact ⟨K, hK K (Nat.le_refl _)⟩
  obtain ⟨_, ⟨a1, a2⟩, ⟨a3, a4⟩, _⟩ := (⟨h0.1, wf_i64 h0.2.1, wf_u64 h0.2.2.1, h0.2.2.2⟩ : _ ∧ _ ∧ _ ∧ _)
  obtain ⟨_, ⟨b1, b2⟩, ⟨b3, b4⟩, _⟩ := (⟨h1.1, wf_i64 h1.2.1, wf_u64 h1.2.2.1, h1.2.2.2⟩ : _ ∧ _ ∧ _ ∧ _)
  obtain ⟨_, ⟨c1, c2⟩, ⟨c3, c4⟩, _⟩ := (⟨h2.1, wf_i64 h2.2.1, wf_u64 h2.2.2.1, h2.2.2.2⟩ : _ ∧ _ ∧ _ ∧ _)
  unfold withylaw03_ColThree.f
  refine ev_bind_now (cut_eq _ _ _ _) (ev_bind_now (cut_eq _ _ _ _) (ev_bind_now (cut_eq _ _ _ _) (ev_bind_now (ref_eq _ _ _ _) (ev_bind_now (rright_eq _ _ _ _) ?_))))
  have done0 : ∀ (y1 y2 y3 : Int) (y4 : ByteArray) (z1 z2 z3 : Int) (z4 : ByteArray) (w1 w2 w3 : Int) (w4 : ByteArray), Ev (fun k => withylaw03_ColThree.j0 k true y1 y2 y3 y4 z1 z2 z3 z4 w1 w2 w3 w4) true := by
    intro y1 y2 y3 y4 z1 z2 z3 z4 w1 w2 w3 w4
    refine ev_step ?_
    simp only [withylaw03_ColThree.j0]
    exact ev_pos trivial fin_ev
  by_cases ra : Right ⟨x0.f0, x0.f1, x0.f2, L (cutS x0.f3 60)⟩
  rotate_left
  · exact ev_neg (by simp [ra]) (done0 _ _ _ _ _ _ _ _ _ _ _ _)
  refine ev_pos (by simp [ra]) (ev_bind_now (ref_eq _ _ _ _) (ev_bind_now (rright_eq _ _ _ _) ?_))
  by_cases rb : Right ⟨x1.f0, x1.f1, x1.f2, L (cutS x1.f3 60)⟩
  rotate_left
  · exact ev_neg (by simp [rb]) (done0 _ _ _ _ _ _ _ _ _ _ _ _)
  refine ev_pos (by simp [rb]) (ev_bind_now (ref_eq _ _ _ _) (ev_bind_now (rright_eq _ _ _ _) ?_))
  by_cases rc : Right ⟨x2.f0, x2.f1, x2.f2, L (cutS x2.f3 60)⟩
  rotate_left
  · rw [decide_eq_false rc]; exact done0 _ _ _ _ _ _ _ _ _ _ _ _
  rw [decide_eq_true rc]
  refine ev_step ?_
  simp only [withylaw03_ColThree.j0]
  refine ev_neg (by decide) (ev_bind (compare_ev _ _ _ _ _ _ _ _) (ev_bind (compare_ev _ _ _ _ _ _ _ _) (ev_bind (compare_ev _ _ _ _ _ _ _ _) ?_)))
  have ht := ccmp_trans ra rb rc ⟨a1, a2, a3, a4⟩ ⟨b1, b2, b3, b4⟩ ⟨c1, c2, c3, c4⟩
  have hx := ccmp_cases ⟨x0.f0, x0.f1, x0.f2, L (cutS x0.f3 60)⟩ ⟨x1.f0, x1.f1, x1.f2, L (cutS x1.f3 60)⟩
  have hse := same_eq ⟨x0.f0, x0.f1, x0.f2, L (cutS x0.f3 60)⟩ ⟨x1.f0, x1.f1, x1.f2, L (cutS x1.f3 60)⟩
  have hself := ccmp_self ⟨x0.f0, x0.f1, x0.f2, L (cutS x0.f3 60)⟩
  simp only at hse
  have hcx : -1 ≤ ccmp ⟨x0.f0, x0.f1, x0.f2, L (cutS x0.f3 60)⟩ ⟨x1.f0, x1.f1, x1.f2, L (cutS x1.f3 60)⟩ ∧ ccmp ⟨x0.f0, x0.f1, x0.f2, L (cutS x0.f3 60)⟩ ⟨x1.f0, x1.f1, x1.f2, L (cutS x1.f3 60)⟩ ≤ 1 ∧ ccmp ⟨x1.f0, x1.f1, x1.f2, L (cutS x1.f3 60)⟩ ⟨x0.f0, x0.f1, x0.f2, L (cutS x0.f3 60)⟩ = -ccmp ⟨x0.f0, x0.f1, x0.f2, L (cutS x0.f3 60)⟩ ⟨x1.f0, x1.f1, x1.f2, L (cutS x1.f3 60)⟩ := by
    rcases hx with ⟨h, k⟩ | ⟨h, k, _⟩ | ⟨h, k⟩ <;> rw [h, k] <;> decide
  have hb := compare_ev x1.f0 x1.f1 x1.f2 (cutS x1.f3 60) x0.f0 x0.f1 x0.f2 (cutS x0.f3 60)
  have hs := compare_ev x0.f0 x0.f1 x0.f2 (cutS x0.f3 60) x0.f0 x0.f1 x0.f2 (cutS x0.f3 60)
  rw [hcx.2.2] at hb
  rw [hself] at hs
  generalize ccmp ⟨x0.f0, x0.f1, x0.f2, L (cutS x0.f3 60)⟩ ⟨x1.f0, x1.f1, x1.f2, L (cutS x1.f3 60)⟩ = x at *
  generalize ccmp ⟨x1.f0, x1.f1, x1.f2, L (cutS x1.f3 60)⟩ ⟨x2.f0, x2.f1, x2.f2, L (cutS x2.f3 60)⟩ = y at *
  generalize ccmp ⟨x0.f0, x0.f1, x0.f2, L (cutS x0.f3 60)⟩ ⟨x2.f0, x2.f1, x2.f2, L (cutS x2.f3 60)⟩ = z at *
  have last : Ev (fun k => (col_Compare.f k x0.f0 x0.f1 x0.f2 (cutS x0.f3 60) x0.f0 x0.f1 x0.f2 (cutS x0.f3 60)).bind fun t => (if t = 0 then ((withylaw03_fixed.f k).bind fun t' => (some t')) else (none))) true := ev_bind hs (ev_pos rfl fin_ev)
  refine ev_neg (by omega) (ev_neg (by omega) (ev_bind hb (ev_pos (by rw [w64 (by omega) (by omega)]) ?_)))
  have hbool : ((x == 0) != (x0.f0 == x1.f0 && (x0.f1 == x1.f1 && (x0.f2 == x1.f2 && ((cutS x0.f3 60).toList == (cutS x1.f3 60).toList))))) = false := by
    rw [L_toList, L_toList, hse]
    by_cases q : x = 0 <;> simp [q]
  rw [hbool]
  refine ev_step ?_
  simp only [withylaw03_ColThree.j1]
  refine ev_neg (by decide) ?_
  by_cases hx0 : x > 0
  · exact ev_pos hx0 (ev_neg (by omega) last)
  · refine ev_neg hx0 ?_
    by_cases hy0 : y > 0
    · refine ev_pos hy0 ?_
      by_cases hm : x = -1
      · exact ev_pos hm last
      · exact ev_neg hm last
    · have ht2 := ht (by omega) (by omega)
      refine ev_neg hy0 (ev_pos (by omega) ?_)
      by_cases hm : x = -1
      · exact ev_pos hm (ev_pos (ht2.2 hm) last)
      · exact ev_neg hm last
end Go.Proofs.YtjfgeppfkhaliaaDoor.Pure
