/- What is proved here: the pure statement of KeyOnce: bytes that are a key are just the bytes of that key. Conditions: none. -/
import Derived.Test.YthaicofleloplaaDoorStmtKeyOnce
import Derived.Test.YthaicofleloplaaDoorKAll
set_option linter.unusedVariables false
set_option linter.unusedSimpArgs false
namespace Go.Proofs.YthaicofleloplaaDoor.Pure
open Go.RowKit Go.Proofs.YthaicofleloplaaDoor.P Go.Proofs.YthaicofleloplaaDoorW.PrintWords Go.Proofs.YthaicofleloplaaDoorW.PrintLast Go.Proofs.YthaicofleloplaaDoorW.PrintMore Go.Proofs.YthaicofleloplaaDoorEv Go.Proofs.YthaicofleloplaaDoorCol Go.Proofs.YthaicofleloplaaDoorR Go.Proofs.YthaicofleloplaaDoor.Spec

theorem KeyOnce : withylaw04_KeyOnce.Pure := by
  intro x0 h0
  suffices h : Ev (fun k => withylaw04_KeyOnce.f k x0) true by
    obtain ⟨K, hK⟩ := h; exact ⟨K, hK K (Nat.le_refl _)⟩
  unfold withylaw04_KeyOnce.f
  have m0 : 0 ≤ mn (x0.size : Int) 200 ∧ mn (x0.size : Int) 200 ≤ (x0.size : Int) := mn_bounds x0 200
  have e0 : x0.extract 0 ((mn (x0.size : Int) 200) : Int).toNat = cutS x0 200 := extract_cut x0 200
  refine ev_pos m0.1 (ev_pos m0.2 ?_)
  rw [e0]
  have hz := cutS_size x0 200
  generalize cutS x0 200 = z at *
  rcases kp_res (L z) with ⟨cs, e, hr, el⟩ | e | e
  · have hsz : (kput cs).length ≤ 200 := by rw [← el, L_length]; exact hz
    have hsm := sm_of hr (by omega)
    refine ev_bind (kget_of z (by omega) e (fun h => absurd rfl h)) (ev_pos rfl ?_)
    have hput := kput_ev cs hsm
    rw [show kputV cs = (B (kput cs), 0) from if_pos fun c hc => (hr c hc).1] at hput
    refine ev_bind hput (ev_pos rfl (ev_pos (by rw [L_toList, L_toList, B_L, el]) ?_))
    have hright := kright_ev cs (fun c hc => (hr c hc).2) hsm.len
    rw [decide_eq_true (fun c hc => (hr c hc).1)] at hright
    exact ev_bind hright (ev_pos rfl kfin_ev)
  · exact ev_bind (kget_of z (by omega) e (fun _ => rfl)) (ev_neg (by decide) (ev_pos rfl kfin_ev))
  · exact ev_bind (kget_of z (by omega) e (fun _ => rfl)) (ev_neg (by decide) (ev_pos rfl kfin_ev))
end Go.Proofs.YthaicofleloplaaDoor.Pure
