/- What is proved here: the pure statement of ColOnce: bytes that are a column are just the bytes of that column. Conditions: none. -/
import Derived.Test.YtjfgeppfkhaliaaDoorStmtColOnce
import Derived.Test.YtjfgeppfkhaliaaDoorCFixed
set_option linter.unusedVariables false
set_option linter.unusedSimpArgs false
namespace Go.Proofs.YtjfgeppfkhaliaaDoor.Pure
open Go.RowKit Go.Proofs.YtjfgeppfkhaliaaDoor.P Go.Proofs.YtjfgeppfkhaliaaDoorW.PrintWords Go.Proofs.YtjfgeppfkhaliaaDoorW.PrintLast Go.Proofs.YtjfgeppfkhaliaaDoorW.PrintMore Go.Proofs.YtjfgeppfkhaliaaDoorEv Go.Proofs.YtjfgeppfkhaliaaDoorCol Go.Proofs.YtjfgeppfkhaliaaDoorR Go.Proofs.YtjfgeppfkhaliaaDoor.Spec

theorem fin_ev : Ev (fun k => (withylaw03_fixed.f k).bind fun t => some t) true := ev_bind fixed_ev ev_some
theorem cput_len {c : Cl} {l : List UInt8} {m : Nat} (hm : m ≤ l.length) (h : l.take m = cput c) : c.s.length ≤ l.length ∨ c.s = [] ∨ c.kd ≠ 4 := by
  by_cases q : c.kd = 4
  · refine .inl ?_
    have e : (cput c).length = (ctail c).length + 1 := rfl
    rw [ctail_4 q, List.length_append, escL_len] at e
    rw [← h, List.length_take] at e
    omega
  · exact .inr (.inr q)
theorem ColOnce : withylaw03_ColOnce.Pure := by
  intro x0 x1 h0 h1
  suffices h : Ev (fun k => withylaw03_ColOnce.f k x0 x1) true by
    obtain ⟨K, hK⟩ := h; exact ⟨K, hK K (Nat.le_refl _)⟩
  unfold withylaw03_ColOnce.f
  have hb : 0 ≤ mn (x0.size : Int) 100 ∧ mn (x0.size : Int) 100 ≤ (x0.size : Int) := mn_bounds x0 100
  refine ev_pos hb.1 (ev_pos hb.2 ?_)
  have e : x0.extract 0 ((mn (x0.size : Int) 100) : Int).toNat = cutS x0 100 := extract_cut x0 100
  rw [e]
  have hs := cutS_size x0 100
  generalize cutS x0 100 = s at *
  have hg := get_ev s x1 (by omega)
  by_cases hr : x1 < 0 ∨ x1 > (s.size : Int)
  · have e1 : getV s x1 = (0, 0, 0, ⟨#[]⟩, 0, 4) := by unfold getV; rw [if_pos hr]
    rw [e1] at hg
    exact ev_bind hg (ev_neg (by decide) (ev_pos (by rw [L_toList]; rfl) (ev_pos rfl fin_ev)))
  have e1 : getV s x1 = gres x1.toNat (cparse ((L s).drop x1.toNat)) := by unfold getV; rw [if_neg hr]
  rw [e1] at hg
  obtain ⟨p, rfl⟩ := Int.eq_ofNat_of_zero_le (by omega : 0 ≤ x1)
  rw [Int.toNat_natCast] at hg
  have hp : p ≤ s.size := by omega
  rcases cparse_once ((L s).drop p) with ⟨c, m, e2, rc, bc, m0, m1, m2⟩ | e2 | e2
  · have e3 : gres p (c, m, 0) = (c.kd, c.i, c.u, B c.s, ((p + m : Nat) : Int), 0) := by unfold gres; rw [if_pos rfl]
    rw [e2, e3] at hg
    have hlen := drop_len s p
    have hcs : c.s.length ≤ 1000 := by
      rcases cput_len m1 m2 with h | h | h
      · omega
      · rw [h]; simp
      · have : c.s = [] := by
          rcases rc with ⟨_, _, _, q⟩ | ⟨_, _, _, q⟩ | ⟨_, _, q⟩ | ⟨_, _, q⟩ | ⟨q, _⟩
          · exact q
          · exact q
          · exact q
          · exact q
          · exact absurd q h
        rw [this]; simp
    have hL : (⟨c.kd, c.i, c.u, L (B c.s)⟩ : Cl) = c := by rw [B_L]
    have hput := cput_ev c.kd c.i c.u (B c.s) (by rw [hL]; exact bc) (by rw [B_size]; exact hcs)
    unfold putV at hput
    rw [hL, if_pos rc] at hput
    have hright := right_ev c.kd c.i c.u (B c.s) bc.u0
    rw [hL, decide_eq_true rc] at hright
    refine ev_bind hg (ev_pos rfl (ev_bind hput (ev_pos rfl (ev_bind hright (ev_pos rfl ?_)))))
    refine ev_pos (by omega) (ev_pos (by simp only; omega) (ev_pos (by simp only; omega) (ev_pos (by omega) (ev_pos (by simp only; omega) (ev_pos ?_ fin_ev)))))
    rw [L_toList, L_toList, B_L, L_extract, Int.toNat_natCast, Int.toNat_natCast, show p + m - p = m by omega, m2]
  · have e3 : gres p (zero, 0, 7) = (0, 0, 0, ⟨#[]⟩, 0, 7) := rfl
    rw [e2, e3] at hg
    exact ev_bind hg (ev_neg (by decide) (ev_pos (by rw [L_toList]; rfl) (ev_pos rfl fin_ev)))
  · have e3 : gres p (zero, 0, 3) = (0, 0, 0, ⟨#[]⟩, 0, 3) := rfl
    rw [e2, e3] at hg
    exact ev_bind hg (ev_neg (by decide) (ev_pos (by rw [L_toList]; rfl) (ev_pos rfl fin_ev)))
end Go.Proofs.YtjfgeppfkhaliaaDoor.Pure
