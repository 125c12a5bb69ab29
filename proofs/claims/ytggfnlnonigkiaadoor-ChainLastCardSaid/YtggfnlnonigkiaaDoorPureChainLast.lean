/- What is proved here: the pure statement of ChainLast. Conditions: sizes within the form's reach. -/
import Derived.Test.YtggfnlnonigkiaaDoorStmtChainLast
import Derived.Test.YtggfnlnonigkiaaDoorChain2
set_option linter.unusedVariables false
set_option linter.unusedSimpArgs false
namespace Go.Proofs.YtggfnlnonigkiaaDoor.Pure
open Go.RowKit Go.Proofs.YtggfnlnonigkiaaDoorW.PrintWords Go.Proofs.YtggfnlnonigkiaaDoorW.PrintLast Go.Proofs.YtggfnlnonigkiaaDoorW.PrintMore Go.Proofs.YtggfnlnonigkiaaDoorEv Go.Proofs.YtggfnlnonigkiaaDoorSum Go.Proofs.YtggfnlnonigkiaaDoorHead Go.Proofs.YtggfnlnonigkiaaDoor.P Go.Proofs.YtggfnlnonigkiaaDoor.HSpec Go.Proofs.YtggfnlnonigkiaaDoor.Spec
theorem r6_eq (p : Int) : withyref06_Size.f p = some (diskOk p) := by
  unfold withyref06_Size.f diskOk
  by_cases h1 : p = 128
  · rw [if_pos h1, decide_eq_true h1]; rfl
  · rw [if_neg h1, decide_eq_false h1]
    by_cases h2 : p = 256
    · rw [if_pos h2, decide_eq_true h2]; rfl
    · rw [if_neg h2, decide_eq_false h2]
      by_cases h3 : p = 512
      · rw [if_pos h3, decide_eq_true h3]; rfl
      · rw [if_neg h3, decide_eq_false h3]; rfl
theorem ChainLast : withylaw12_ChainLast.Pure := by
  intro x0 x1 x2 h0 h1 h2
  have b1 := wf_u16 h1
  have c0 := wf_u16 h2.1
  have c1 := wf_u16 h2.2
  refine Ev.rounds ?_
  show Ev (fun k => withylaw12_ChainLast.f k x0 x1 x2.f0 x2.f1) true
  unfold withylaw12_ChainLast.f
  refine ev_bind_now (r6_eq x0) ?_
  by_cases hd : diskOk x0 = true
  · refine ev_pos hd ?_
    have hd' := (diskOk_iff x0).1 hd
    obtain ⟨q, hq, hql⟩ : ∃ q : Nat, Int.tmod (wrap64 x1) (wrap64 (x0 + 2)) = (q : Int) ∧ (q : Int) < x0 + 2 := by
      refine ⟨(x1 % (x0 + 2)).toNat, ?_, ?_⟩
      · have := Int.emod_nonneg x1 (show x0 + 2 ≠ 0 by omega)
        rw [w64 (x := x1) (by omega) (by omega), w64 (by omega) (by omega), Int.tmod_eq_emod_of_nonneg (by omega)]
        omega
      · have h5 := Int.emod_nonneg x1 (show x0 + 2 ≠ 0 by omega)
        have h6 := Int.emod_lt_of_pos x1 (show 0 < x0 + 2 by omega)
        omega
    obtain ⟨a, ha, ha1, ha2⟩ : ∃ a : Int, wrap64 (1 + Int.tmod (wrap64 x2.f0) 4095) = a ∧ 1 ≤ a ∧ a < 4096 := by
      refine ⟨1 + x2.f0 % 4095, ?_, by omega, by omega⟩
      rw [w64 (x := x2.f0) (by omega) (by omega), Int.tmod_eq_emod_of_nonneg (by omega), w64 (by omega) (by omega)]
    obtain ⟨b, hb, hb1, hb2⟩ : ∃ b : Int, wrap64 (1 + Int.tmod (wrap64 x2.f1) 4095) = b ∧ 1 ≤ b ∧ b < 4096 := by
      refine ⟨1 + x2.f1 % 4095, ?_, by omega, by omega⟩
      rw [w64 (x := x2.f1) (by omega) (by omega), Int.tmod_eq_emod_of_nonneg (by omega), w64 (by omega) (by omega)]
    have hs := repB_size 5 q
    rw [hq, ha, hb, w16 hd']
    refine ev_neg (by rw [w64 (by omega) (by omega)]; omega) ?_
    refine ev_bind (show Ev (fun k => withyref01_Repeat.f k 5 (q : Int)) (repB 5 q) from rrepeat_ev 5 q (by omega)) ?_
    refine ev_bind_now (may_eq a 0 (repB 5 q) x0) (ev_bind_now (may_eq a b (repB 5 q) x0) ?_)
    have e1 : decide (Ok a 0 (repB 5 q) x0) = decide (1 ≤ q ∧ (q : Int) ≤ x0 - 16) := by
      rw [Bool.eq_iff_iff, decide_eq_true_eq, decide_eq_true_eq]
      constructor
      · intro h
        have := h.2.2.2.2.1 rfl
        rw [hs] at this
        exact this
      · intro h
        exact ⟨hd', ⟨ha1, ha2⟩, by omega, by omega, fun _ => by rw [hs]; exact h, fun h => absurd rfl h⟩
    have e2 : decide (Ok a b (repB 5 q) x0) = decide ((q : Int) = x0 - 16 ∧ a ≠ b) := by
      rw [Bool.eq_iff_iff, decide_eq_true_eq, decide_eq_true_eq]
      constructor
      · intro h
        have := h.2.2.2.2.2 (by omega)
        rw [hs] at this
        exact ⟨this, fun e => h.2.2.2.1 e.symm⟩
      · intro h
        exact ⟨hd', ⟨ha1, ha2⟩, by omega, fun e => h.2 e.symm, fun h => by omega, fun _ => by rw [hs]; exact h.1⟩
    rw [e1, e2]
    have fin := ev_bind fixed_ev (ev_some (r := true))
    by_cases g1 : (q : Int) ≥ 1
    · refine ev_pos g1 ?_
      have e3 : decide (1 ≤ q ∧ (q : Int) ≤ x0 - 16) = decide ((q : Int) ≤ x0 - 16) := by
        rw [Bool.eq_iff_iff, decide_eq_true_eq, decide_eq_true_eq]
        exact ⟨fun h => h.2, fun h => ⟨by omega, h⟩⟩
      rw [e3]
      refine ev_pos (by simp) ?_
      by_cases g2 : (q : Int) = x0 - 16
      · refine ev_pos g2 (ev_pos ?_ fin)
        by_cases g3 : a = b
        · rw [decide_eq_false (fun h => h.2 g3)]
          simp [g3]
        · rw [decide_eq_true ⟨g2, g3⟩]
          simp [g3]
      · refine ev_neg g2 (ev_pos ?_ fin)
        rw [decide_eq_false (fun h => g2 h.1)]
        rfl
    · refine ev_neg g1 ?_
      rw [decide_eq_false (p := 1 ≤ q ∧ (q : Int) ≤ x0 - 16) (fun h => g1 (by omega))]
      refine ev_pos rfl (ev_neg (by omega) (ev_pos ?_ fin))
      rw [decide_eq_false (fun h => by omega)]
      rfl
  · refine ev_neg hd (ev_bind_now (may_eq 1 0 ⟨#[120]⟩ x0) (ev_neg ?_ (ev_bind fixed_ev ev_some)))
    rw [decide_eq_false (fun h => hd ((diskOk_iff x0).2 h.1))]
    exact Bool.false_ne_true
end Go.Proofs.YtggfnlnonigkiaaDoor.Pure
