/- What is proved here: the pure statement of ChainEach. Conditions: sizes within the form's reach. -/
import Derived.Test.YtggfnlnonigkiaaDoorStmtChainEach
import Derived.Test.YtggfnlnonigkiaaDoorChain2
set_option linter.unusedVariables false
set_option linter.unusedSimpArgs false
namespace Go.Proofs.YtggfnlnonigkiaaDoor.Pure
open Go.RowKit Go.Proofs.YtggfnlnonigkiaaDoorW.PrintWords Go.Proofs.YtggfnlnonigkiaaDoorW.PrintLast Go.Proofs.YtggfnlnonigkiaaDoorW.PrintMore Go.Proofs.YtggfnlnonigkiaaDoorEv Go.Proofs.YtggfnlnonigkiaaDoorSum Go.Proofs.YtggfnlnonigkiaaDoorHead Go.Proofs.YtggfnlnonigkiaaDoor.P Go.Proofs.YtggfnlnonigkiaaDoor.HSpec Go.Proofs.YtggfnlnonigkiaaDoor.Spec
theorem r6_eq (p : Int) : withyref06_Size.f p = some (diskOk p) := by
  unfold withyref06_Size.f diskOk
  by_cases h1 : p = 128
  · rw [if_pos h1, decide_eq_true h1]; rfl
  · rw [if_neg h1, decide_eq_false h1]
    by_cases h2 : p = 256
    · rw [if_pos h2, decide_eq_true h2]; rfl
    · rw [if_neg h2, decide_eq_false h2]
      by_cases h3 : p = 512
      · rw [if_pos h3, decide_eq_true h3]; rfl
      · rw [if_neg h3, decide_eq_false h3]; rfl
theorem each_one (p : Int) (hd : diskOk p = true) (l : List S23) (i : Nat) (hi : i < l.length) (hl : l.length = 7) (e : S23) (he : rd_T23 l (i : Int) = e) (hb : ¬ Ok e.f0 e.f1 e.f2 p) (next : Ev (fun k => withylaw12_ChainEach.l0 k p l ((i + 1 : Nat) : Int)) true) : Ev (fun k => withylaw12_ChainEach.l0 k p l (i : Int)) true := by
  refine ev_step ?_
  simp only [withylaw12_ChainEach.l0]
  rw [he, w64_succ (by omega)]
  refine ev_pos (by omega) (ev_pos (by omega) (ev_bind (ev_eq (enc_ev e.f0 e.f1 e.f2 p) (enc_bad hd hb)) (ev_pos rfl (ev_pos (by rw [L_toList]) ?_))))
  refine ev_bind_now (may_eq e.f0 e.f1 e.f2 p) (ev_neg ?_ next)
  rw [decide_eq_false hb]
  exact Bool.false_ne_true
theorem ChainEach : withylaw12_ChainEach.Pure := by
  intro x0 x1 h0 h1
  refine Ev.rounds ?_
  show Ev (fun k => withylaw12_ChainEach.f k x0.f0 x0.f1 x0.f2 x1) true
  unfold withylaw12_ChainEach.f
  have hm2 : (mn (x0.f2.size : Int) 1100).toNat = min x0.f2.size 1100 := by rw [mn_eq]; omega
  have hcut : withylaw12_Cut.f x0.f0 x0.f1 x0.f2 = some (x0.f0, x0.f1, x0.f2.extract 0 (min x0.f2.size 1100)) := by
    unfold withylaw12_Cut.f
    rw [hm2, mn_eq, if_pos (by omega), if_pos (by omega)]
  refine ev_bind_now hcut ?_
  generalize x0.f2.extract 0 (min x0.f2.size 1100) = d
  refine ev_bind_now (may_eq x0.f0 x0.f1 d x1) ?_
  generalize x0.f0 = s
  generalize x0.f1 = n
  by_cases hk : Ok s n d x1
  · refine ev_pos (decide_eq_true hk) ?_
    obtain ⟨k0, k1, k2, k3, k4, k5⟩ := hk
    have hd : diskOk x1 = true := (diskOk_iff x1).2 k0
    have e15 : wrap64 (x1 - 15) = (((x1 - 15).toNat : Nat) : Int) := by rw [w64 (by omega) (by omega)]; omega
    have e17 : wrap64 (x1 - 17) = (((x1 - 17).toNat : Nat) : Int) := by rw [w64 (by omega) (by omega)]; omega
    have em : wrap64 (Int.tmod s 4095 + 1) = s % 4095 + 1 := by rw [Int.tmod_eq_emod_of_nonneg (by omega), w64 (by omega) (by omega)]
    have z15 := repB_size 1 (x1 - 15).toNat
    have z17 := repB_size 1 (x1 - 17).toNat
    rw [e15, e17, em]
    refine ev_bind_now rfl (ev_pos (by simp) (ev_bind_now rfl (ev_pos (by simp) (ev_bind_now rfl (ev_pos (by simp) (ev_bind_now rfl (ev_pos (by simp) (ev_bind_now rfl (ev_pos (by simp) (ev_bind_now rfl ?_))))))))))
    refine ev_bind (show Ev (fun k => withyref01_Repeat.f k 1 (((x1 - 15).toNat : Nat) : Int)) (repB 1 (x1 - 15).toNat) from rrepeat_ev 1 _ (by omega)) (ev_pos (by simp) (ev_bind_now rfl ?_))
    refine ev_bind (show Ev (fun k => withyref01_Repeat.f k 1 (((x1 - 17).toNat : Nat) : Int)) (repB 1 (x1 - 17).toNat) from rrepeat_ev 1 _ (by omega)) (ev_pos (by simp) (ev_bind_now rfl ?_))
    generalize hA : repB 1 (x1 - 15).toNat = A at z15 ⊢
    generalize hB : repB 1 (x1 - 17).toNat = B at z17 ⊢
    show Ev (fun k => withylaw12_ChainEach.l0 k x1 [⟨0, n, d⟩, ⟨4096, n, d⟩, ⟨s, -1, d⟩, ⟨s, s, d⟩, ⟨s, n, ⟨#[]⟩⟩, ⟨s, n, A⟩, ⟨s, s % 4095 + 1, B⟩] 0) true
    refine each_one x1 hd _ 0 (by simp) rfl ⟨0, n, d⟩ rfl (fun h => by have := h.2.1; simp only at this; omega) ?_
    refine each_one x1 hd _ 1 (by simp) rfl ⟨4096, n, d⟩ rfl (fun h => by have := h.2.1; simp only at this; omega) ?_
    refine each_one x1 hd _ 2 (by simp) rfl ⟨s, -1, d⟩ rfl (fun h => by have := h.2.2.1; simp only at this; omega) ?_
    refine each_one x1 hd _ 3 (by simp) rfl ⟨s, s, d⟩ rfl (fun h => h.2.2.2.1 rfl) ?_
    refine each_one x1 hd _ 4 (by simp) rfl ⟨s, n, ⟨#[]⟩⟩ rfl (fun h => by
      have q0 := h.2.2.2.2.1
      have q1 := h.2.2.2.2.2
      have e0 : (⟨#[]⟩ : ByteArray).size = 0 := rfl
      simp only [e0] at q0 q1
      by_cases hn : n = 0
      · have := q0 hn; omega
      · have := q1 hn; omega) ?_
    refine each_one x1 hd _ 5 (by simp) rfl ⟨s, n, A⟩ rfl (fun h => by
      have q0 := h.2.2.2.2.1
      have q1 := h.2.2.2.2.2
      simp only at q0 q1
      by_cases hn : n = 0
      · have := q0 hn; omega
      · have := q1 hn; omega) ?_
    refine each_one x1 hd _ 6 (by simp) rfl ⟨s, s % 4095 + 1, B⟩ rfl (fun h => by
      have q1 := h.2.2.2.2.2
      simp only at q1
      have := q1 (by omega)
      omega) ?_
    refine ev_step ?_
    simp only [withylaw12_ChainEach.l0]
    exact ev_neg (by simp) (ev_bind_now (r6_eq x1) (ev_pos hd (ev_bind fixed_ev ev_some)))
  · refine ev_neg (by rw [decide_eq_false hk]; exact Bool.false_ne_true) ?_
    have hne : (chEnc s n d x1).2 ≠ 0 := by
      unfold chEnc
      rw [if_neg hk]
      split <;> decide
    exact ev_bind (enc_ev s n d x1) (ev_neg hne (ev_bind fixed_ev ev_some))
end Go.Proofs.YtggfnlnonigkiaaDoor.Pure
