/- What is proved here: the pure statement of ChainBack. Conditions: sizes within the form's reach. -/
import Derived.Test.YtggfnlnonigkiaaDoorStmtChainBack
import Derived.Test.YtggfnlnonigkiaaDoorChain2
set_option linter.unusedVariables false
set_option linter.unusedSimpArgs false
namespace Go.Proofs.YtggfnlnonigkiaaDoor.Pure
open Go.RowKit Go.Proofs.YtggfnlnonigkiaaDoorW.PrintWords Go.Proofs.YtggfnlnonigkiaaDoorW.PrintLast Go.Proofs.YtggfnlnonigkiaaDoorW.PrintMore Go.Proofs.YtggfnlnonigkiaaDoorEv Go.Proofs.YtggfnlnonigkiaaDoorSum Go.Proofs.YtggfnlnonigkiaaDoorHead Go.Proofs.YtggfnlnonigkiaaDoor.P Go.Proofs.YtggfnlnonigkiaaDoor.HSpec Go.Proofs.YtggfnlnonigkiaaDoor.Spec
theorem back_j (s : ByteArray) (hs : s.size ≤ 1100) : Ev (fun k => withylaw12_ChainBack.j0 k s) true := by
  refine ev_step ?_
  simp only [withylaw12_ChainBack.j0]
  refine ev_bind (dec_ev s (by omega)) ?_
  rcases dec_code s with h | h
  · refine ev_pos h ?_
    obtain ⟨⟨a, n, d, c⟩, e⟩ : ∃ t, chDec s = t := ⟨_, rfl⟩
    rw [e] at h ⊢
    simp only at h ⊢
    subst h
    obtain ⟨hk, hp⟩ := dec_some e
    refine ev_bind (ev_eq (enc_ev a n d (s.size : Int)) (enc_ok hk)) ?_
    rw [hp]
    exact ev_pos rfl (ev_pos rfl (ev_bind fixed_ev ev_some))
  · rw [h]
    exact ev_neg (by decide) (ev_pos rfl (ev_pos (by simp [ByteArray.toList_eq]) (ev_bind fixed_ev ev_some)))
theorem ChainBack : withylaw12_ChainBack.Pure := by
  intro x0 x1 x2 h0 h1 h2
  refine Ev.rounds ?_
  show Ev (fun k => withylaw12_ChainBack.f k x0.f0 x0.f1 x0.f2 x1 x2) true
  unfold withylaw12_ChainBack.f
  have hm : (mn (x2.size : Int) 1100).toNat = min x2.size 1100 := by rw [mn_eq]; omega
  have hm2 : (mn (x0.f2.size : Int) 1100).toNat = min x0.f2.size 1100 := by rw [mn_eq]; omega
  have hcut : withylaw12_Cut.f x0.f0 x0.f1 x0.f2 = some (x0.f0, x0.f1, x0.f2.extract 0 (min x0.f2.size 1100)) := by
    unfold withylaw12_Cut.f
    rw [hm2, mn_eq, if_pos (by omega), if_pos (by omega)]
  rw [hm, mn_eq]
  refine ev_bind_now hcut (ev_pos (by omega) (ev_pos (by omega) ?_))
  have hs : (x2.extract 0 (min x2.size 1100)).size ≤ 1100 := by rw [size_extract]; omega
  have J := back_j _ hs
  generalize x2.extract 0 (min x2.size 1100) = s at hs J ⊢
  generalize x0.f2.extract 0 (min x0.f2.size 1100) = d
  refine ev_bind (enc_ev x0.f0 x0.f1 d x1) (ev_bind_now (may_eq x0.f0 x0.f1 d x1) ?_)
  by_cases hk : Ok x0.f0 x0.f1 d x1
  · rw [enc_ok hk, decide_eq_true hk]
    have hps := page_size hk
    obtain ⟨P, hP, _, _, hP2, _⟩ := ok_size hk
    refine ev_neg (by simp) (ev_pos rfl ?_)
    refine ev_bind (ev_eq (dec_ev (chPage x0.f0 x0.f1 d x1) (by omega)) (dec_page hk)) (ev_pos rfl (ev_neg (by simp) (ev_pos hps J)))
  · rw [decide_eq_false hk]
    have hne : (chEnc x0.f0 x0.f1 d x1).2 ≠ 0 := by
      unfold chEnc
      rw [if_neg hk]
      split <;> decide
    refine ev_neg (by simp [hne]) (ev_neg hne J)
end Go.Proofs.YtggfnlnonigkiaaDoor.Pure
