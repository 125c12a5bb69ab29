/- What is proved here: the pure statement of ChainTells. Conditions: sizes within the form's reach. -/
import Derived.Test.YtggfnlnonigkiaaGreatDoorStmtChainTells
import Derived.Test.YtggfnlnonigkiaaGreatDoorRChain
set_option linter.unusedVariables false
set_option linter.unusedSimpArgs false
namespace Go.Proofs.YtggfnlnonigkiaaGreatDoor.Pure
open Go.RowKit Go.Proofs.YtggfnlnonigkiaaGreatDoorW.PrintWords Go.Proofs.YtggfnlnonigkiaaGreatDoorW.PrintLast Go.Proofs.YtggfnlnonigkiaaGreatDoorW.PrintMore Go.Proofs.YtggfnlnonigkiaaGreatDoorEv Go.Proofs.YtggfnlnonigkiaaGreatDoorSum Go.Proofs.YtggfnlnonigkiaaGreatDoorHead Go.Proofs.YtggfnlnonigkiaaGreatDoor.P Go.Proofs.YtggfnlnonigkiaaGreatDoor.HSpec Go.Proofs.YtggfnlnonigkiaaGreatDoor.Spec
theorem tells_j (p : Int) (v : ByteArray) (hv : v.size ≤ 3000) (a b : ByteArray) (n : Int) (h1 : -9223372036854775808 ≤ n) (h2 : n ≤ 9223372036854775807) (t : Bool) (ht : t = false) : Ev (fun k => withylaw12_ChainTells.j0 k p v t a b n) true := by
  subst ht
  refine ev_step ?_
  simp only [withylaw12_ChainTells.j0]
  refine ev_neg (by first | exact not_false | decide) (ev_bind_now (r6_eq p) ?_)
  by_cases hd : diskOk p = true
  · refine ev_pos hd ?_
    have hd' := (diskOk_iff p).1 hd
    obtain ⟨r, hr, hp⟩ : ∃ r : Nat, (112 ≤ r ∧ r ≤ 1008) ∧ p = (r : Int) + 16 := ⟨(p - 16).toNat, by omega, by omega⟩
    refine ev_bind (parts_ev v (by omega) hp (by omega) hr.2) (ev_bind (rparts_ev v hv hp (by omega) hr.2) ?_)
    have hl : (pt r v.size v).length ≤ 140737488351232 := by
      rw [pt_length r (by omega) _ _ (Nat.le_refl _)]
      exact Nat.le_trans (Nat.div_le_self _ _) (by omega)
    obtain ⟨w, e1, e2⟩ := pages_same n h1 h2 hr.1 hr.2 hp
    exact ev_bind (words_ev _ _ hl) (ev_pos (by simp) (ev_bind_now e1 (ev_bind_now e2 (ev_pos rfl (ev_bind fixed_ev ev_some)))))
  · exact ev_neg hd (ev_bind fixed_ev ev_some)
theorem ChainTells : withylaw12_ChainTells.Pure := by
  intro x0 x1 x2 h0 h1 h2
  obtain ⟨f0, f1, f2⟩ := h2
  have bn := wf_i64 f2
  refine Ev.rounds ?_
  show Ev (fun k => withylaw12_ChainTells.f k x0.f0 x0.f1 x0.f2 x1 x2.f0 x2.f1 x2.f2) true
  unfold withylaw12_ChainTells.f
  have hm : (mn (x2.f0.size : Int) 1100).toNat = min x2.f0.size 1100 := by rw [mn_eq]; omega
  have hm3 : (mn (x2.f1.size : Int) 3000).toNat = min x2.f1.size 3000 := by rw [mn_eq]; omega
  have hm2 : (mn (x0.f2.size : Int) 1100).toNat = min x0.f2.size 1100 := by rw [mn_eq]; omega
  have hcut : withylaw12_Cut.f x0.f0 x0.f1 x0.f2 = some (x0.f0, x0.f1, x0.f2.extract 0 (min x0.f2.size 1100)) := by
    unfold withylaw12_Cut.f
    rw [hm2, mn_eq, if_pos (by omega), if_pos (by omega)]
  rw [hm, hm3, mn_eq, mn_eq]
  refine ev_bind_now hcut (ev_pos (by omega) (ev_pos (by omega) (ev_pos (by omega) (ev_pos (by omega) ?_))))
  have hs : (x2.f0.extract 0 (min x2.f0.size 1100)).size ≤ 1100 := by rw [size_extract]; omega
  have hv : (x2.f1.extract 0 (min x2.f1.size 3000)).size ≤ 3000 := by rw [size_extract]; omega
  generalize x2.f0.extract 0 (min x2.f0.size 1100) = s at hs ⊢
  generalize x2.f1.extract 0 (min x2.f1.size 3000) = v at hv ⊢
  generalize x0.f2.extract 0 (min x0.f2.size 1100) = d
  generalize x0.f0 = a
  generalize x0.f1 = n
  have rf : ∀ (a b : Int) (c : ByteArray), withylaw12_Ref.f a b c = some (a, b, c) := fun _ _ _ => rfl
  refine ev_bind (enc_ev a n d x1) (ev_bind_now (rf a n d) (ev_bind (renc_ev a n d x1) (ev_bind (dec_ev s (by omega)) (ev_bind (rdec_ev s (by omega)) (ev_bind_now (may_eq a n d x1) (ev_bind_now (rf a n d) (ev_bind_now (rmay_eq a n d x1) ?_)))))))
  refine ev_neg (by simp) (ev_pos rfl (ev_pos rfl (ev_bind_now (rf _ _ _) (ev_neg (by simp) ?_))))
  exact tells_j x1 v hv x2.f0 x2.f1 x2.f2 bn.1 bn.2 _ (by simp)
end Go.Proofs.YtggfnlnonigkiaaGreatDoor.Pure
