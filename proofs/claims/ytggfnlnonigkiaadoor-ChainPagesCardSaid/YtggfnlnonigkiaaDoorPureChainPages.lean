/- What is proved here: the pure statement of ChainPages. Conditions: sizes within the form's reach. -/
import Derived.Test.YtggfnlnonigkiaaDoorStmtChainPages
import Derived.Test.YtggfnlnonigkiaaDoorChain2
set_option linter.unusedVariables false
set_option linter.unusedSimpArgs false
namespace Go.Proofs.YtggfnlnonigkiaaDoor.Pure
open Go.RowKit Go.Proofs.YtggfnlnonigkiaaDoorW.PrintWords Go.Proofs.YtggfnlnonigkiaaDoorW.PrintLast Go.Proofs.YtggfnlnonigkiaaDoorW.PrintMore Go.Proofs.YtggfnlnonigkiaaDoorEv Go.Proofs.YtggfnlnonigkiaaDoorSum Go.Proofs.YtggfnlnonigkiaaDoorHead Go.Proofs.YtggfnlnonigkiaaDoor.P Go.Proofs.YtggfnlnonigkiaaDoor.HSpec Go.Proofs.YtggfnlnonigkiaaDoor.Spec
theorem r6_eq (p : Int) : withyref06_Size.f p = some (diskOk p) := by
  unfold withyref06_Size.f diskOk
  by_cases h1 : p = 128
  · rw [if_pos h1, decide_eq_true h1]; rfl
  · rw [if_neg h1, decide_eq_false h1]
    by_cases h2 : p = 256
    · rw [if_pos h2, decide_eq_true h2]; rfl
    · rw [if_neg h2, decide_eq_false h2]
      by_cases h3 : p = 512
      · rw [if_pos h3, decide_eq_true h3]; rfl
      · rw [if_neg h3, decide_eq_false h3]; rfl
theorem arith {r : Nat} (hr : r = 112 ∨ r = 240 ∨ r = 496 ∨ r = 1008) (a b : Nat) : (a % r = 0 → pgs (a + 1) r = pgs a r + 1) ∧ (a % r ≠ 0 → pgs (a + 1) r = pgs a r) ∧ pgs (a + b) r ≤ pgs a r + pgs b r ∧ pgs a r ≤ pgs (a + b) r ∧ pgs b r ≤ pgs (a + b) r ∧ a ≤ pgs a r * r ∧ pgs a r * r < max a 1 + r ∧ pgs a r ≤ a := by
  unfold pgs
  rcases hr with rfl | rfl | rfl | rfl <;> omega
theorem pages_j {r : Nat} (hr : r = 112 ∨ r = 240 ∨ r = 496 ∨ r = 1008) (p : Int) (hp : p = (r : Int) + 16) (a b m : Nat) (ha : a < 1048576) (hb : b < 1048576) (hm1 : a % r = 0 → m = 1) (hm0 : a % r ≠ 0 → m = 0) :
    Ev (fun k => withylaw12_ChainPages.j0 k p (a : Int) (b : Int) (pgs a r : Int) (pgs b r : Int) (m : Int)) true := by
  obtain ⟨k1, k2, k3, k4, k5, k6, k7, k8⟩ := arith hr a b
  have k9 := (arith hr b a).2.2.2.2.2.2.2
  have r1 : 1 ≤ r ∧ r ≤ 1008 := by omega
  refine ev_step ?_
  simp only [withylaw12_ChainPages.j0]
  rw [show wrap64 ((a : Int) + (b : Int)) = ((a + b : Nat) : Int) by rw [w64 (by omega) (by omega)]; omega, show wrap64 ((a : Int) + 1) = ((a + 1 : Nat) : Int) from w64_succ (by omega), show wrap64 (-(a : Int)) = -(a : Int) from w64 (by omega) (by omega)]
  refine ev_bind_now (pages_nat (a + b) r (by omega) r1.1 r1.2 hp) (ev_bind_now (pages_nat (a + 1) r (by omega) r1.1 r1.2 hp) ?_)
  have e1 : pgs (a + 1) r = pgs a r + m := by
    by_cases h : a % r = 0
    · rw [k1 h, hm1 h]
    · rw [k2 h, hm0 h, Nat.add_zero]
  have hm : m ≤ 1 := by
    by_cases h : a % r = 0
    · rw [hm1 h]; exact Nat.le_refl _
    · rw [hm0 h]; exact Nat.zero_le _
  refine ev_pos (by rw [w64 (by omega) (by omega), e1]; omega) (ev_pos (by rw [w64 (by omega) (by omega)]; omega) (ev_pos (by rw [mx_eq]; omega) ?_))
  refine ev_bind_now (pages_neg (-(a : Int)) (by omega) r1.1 r1.2 hp) (ev_pos rfl ?_)
  have ez : wrap64 (p - 16) = (r : Int) := by rw [w64 (by omega) (by omega)]; omega
  rw [ez, mx_eq]
  have h6 : pgs a r * r ≤ 1048577 + 1008 := by omega
  have e6 : ((pgs a r : Nat) : Int) * (r : Int) = ((pgs a r * r : Nat) : Int) := by rw [Int.natCast_mul]
  have e7 : (((pgs a r : Nat) : Int) - 1) * (r : Int) = ((pgs a r * r : Nat) : Int) - (r : Int) := by rw [Int.sub_mul, e6, Int.one_mul]
  rw [w64 (x := ((pgs a r : Nat) : Int) - 1) (by omega) (by omega), e6, e7]
  generalize pgs a r * r = z at k6 k7 h6 ⊢
  exact ev_pos (by rw [w64 (by omega) (by omega)]; omega) (ev_pos (by rw [w64 (by omega) (by omega)]; omega) (ev_bind fixed_ev ev_some))
theorem ChainPages : withylaw12_ChainPages.Pure := by
  intro x0 x1 x2 h0 h1 h2
  have b0 := wf_u32 h0
  have b1 := wf_u32 h1
  refine Ev.rounds ?_
  show Ev (fun k => withylaw12_ChainPages.f k x0 x1 x2) true
  unfold withylaw12_ChainPages.f
  refine ev_bind_now (r6_eq x2) ?_
  by_cases hd : diskOk x2 = true
  · refine ev_pos hd ?_
    have hd' := (diskOk_iff x2).1 hd
    obtain ⟨r, hr, hp⟩ : ∃ r : Nat, (r = 112 ∨ r = 240 ∨ r = 496 ∨ r = 1008) ∧ x2 = (r : Int) + 16 := ⟨(x2 - 16).toNat, by omega, by omega⟩
    obtain ⟨a, ha⟩ : ∃ a : Nat, Int.tmod (wrap64 x0) 1048576 = (a : Int) ∧ a < 1048576 := ⟨(x0 % 1048576).toNat, by rw [w64 (by omega) (by omega), Int.tmod_eq_emod_of_nonneg (by omega)]; omega, by omega⟩
    obtain ⟨b, hb⟩ : ∃ b : Nat, Int.tmod (wrap64 x1) 1048576 = (b : Int) ∧ b < 1048576 := ⟨(x1 % 1048576).toNat, by rw [w64 (by omega) (by omega), Int.tmod_eq_emod_of_nonneg (by omega)]; omega, by omega⟩
    have r1 : 1 ≤ r ∧ r ≤ 1008 := by omega
    have ez : wrap64 (x2 - 16) = (r : Int) := by rw [w64 (by omega) (by omega)]; omega
    rw [ha.1, hb.1, ez]
    refine ev_bind_now (pages_nat a r (by omega) r1.1 r1.2 hp) (ev_bind_now (pages_nat b r (by omega) r1.1 r1.2 hp) (ev_neg (by omega) ?_))
    have et : Int.tmod (a : Int) (r : Int) = ((a % r : Nat) : Int) := rfl
    rw [et]
    by_cases h : a % r = 0
    · exact ev_pos (by omega) (pages_j hr x2 hp a b 1 ha.2 hb.2 (fun _ => rfl) (fun q => absurd h q))
    · exact ev_neg (by omega) (pages_j hr x2 hp a b 0 ha.2 hb.2 (fun q => absurd q h) (fun _ => rfl))
  · exact ev_neg hd (ev_bind fixed_ev ev_some)
end Go.Proofs.YtggfnlnonigkiaaDoor.Pure
