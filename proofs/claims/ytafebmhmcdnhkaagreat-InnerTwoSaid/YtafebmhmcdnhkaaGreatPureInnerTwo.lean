/- What is proved here: the pure statement of InnerTwo: an inner page of one kid, or two, that may be always has room. Conditions: none. -/
import Derived.Test.YtafebmhmcdnhkaaGreatStmtInnerTwo
import Derived.Test.YtafebmhmcdnhkaaGreatIAll
set_option linter.unusedVariables false
set_option linter.unusedSimpArgs false
namespace Go.Proofs.YtafebmhmcdnhkaaGreat.Pure
open Go.RowKit Go.Proofs.YtafebmhmcdnhkaaGreatW.PrintWords Go.Proofs.YtafebmhmcdnhkaaGreatW.PrintLast Go.Proofs.YtafebmhmcdnhkaaGreatW.PrintMore Go.Proofs.YtafebmhmcdnhkaaGreatEv Go.Proofs.YtafebmhmcdnhkaaGreatMath Go.Proofs.YtafebmhmcdnhkaaGreatSlot Go.Proofs.YtafebmhmcdnhkaaGreat.P Go.Proofs.YtafebmhmcdnhkaaGreatW.Abbr Go.Proofs.YtafebmhmcdnhkaaGreat.Spec
theorem room_two {a0 a1 r : Int} {high : ByteArray} {kids : List Int} {seps : List ByteArray} {p : Int} (h : mayOk a0 a1 r high kids seps p = true) (hk : kids.length ≤ 2) : (inNeed kids seps high : Int) ≤ p - 16 := by
  obtain ⟨h0, h1, h2, h3, h4, h5, h6, h7, h8, h9, h10⟩ := may_facts h
  obtain ⟨k0, ks, ek⟩ : ∃ k0 ks, kids.map Int.toNat = k0 :: ks := by
    cases h : kids.map Int.toNat with
    | nil =>
      have h11 : (kids.map Int.toNat).length = 0 := by rw [h]; rfl
      rw [List.length_map] at h11
      omega
    | cons a b => exact ⟨a, b, rfl⟩
  have hlen : ks.length = seps.length := by have := congrArg List.length ek; simp at this; omega
  rw [inNeed_isz k0 ks kids seps high ek, isz_eq k0 ks seps high hlen]
  match seps, h5, h9 with
  | [], _, _ =>
    have e1 : span (([] : List ByteArray).map L) = 0 := rfl
    have e2 : (stripped []).2 = [] := rfl
    rw [e1, e2]
    simp only [List.map_nil, List.length_nil, List.sum_nil]
    omega
  | [s], _, h9 =>
    have hs := h9 s List.mem_cons_self
    have e1 : span ([s].map L) = s.size := L_length s
    have e2 : ((stripped [s]).2.map (·.size)).sum = 0 := by
      show (([s].map (fun t => t.extract (span ([s].map L)) t.size)).map (·.size)).sum = 0
      rw [e1]
      simp only [List.map_cons, List.map_nil, List.sum_cons, List.sum_nil]
      rw [size_extract]
      omega
    rw [e1, e2]
    simp only [List.length_cons, List.length_nil]
    omega
  | _ :: _ :: _, h5, _ => exact absurd h5 (by simp; omega)
theorem rsz_eq (p : Int) : withyref06_Size.f p = some (diskOk p) := by
  unfold withyref06_Size.f diskOk
  by_cases h1 : p = 128
  · rw [if_pos h1]; simp [h1]
  by_cases h2 : p = 256
  · rw [if_neg h1, if_pos h2]; simp [h2]
  by_cases h3 : p = 512
  · rw [if_neg h1, if_neg h2, if_pos h3]; simp [h3]
  rw [if_neg h1, if_neg h2, if_neg h3]
  by_cases h4 : p = 1024
  · simp [h4]
  · simp [h1, h2, h3, h4]
theorem InnerTwo : withylaw11_InnerTwo.Pure := by
  intro x p hx hp
  refine Ev.rounds ?_
  unfold withylaw11_InnerTwo.f
  refine ev_bind (icut_ev x.f0 x.f1 x.f2 x.f3 x.f4 x.f5) ?_
  simp only
  generalize hK : x.f4.take 30 = K
  generalize hS : cutSeps x.f5 = S
  have hSl : S.length ≤ 30 := by rw [← hS]; exact cutSeps_length _
  have hKl : K.length ≤ 30 := by rw [← hK, List.length_take]; omega
  have m1 := mn_eq (K.length : Int) 2
  refine ev_pos (by omega) (ev_pos (by omega) (ev_bind_now rfl ?_))
  generalize hK2 : K.take (mn (K.length : Int) 2).toNat = K2
  have hK2l : K2.length ≤ 2 := by rw [← hK2, List.length_take]; omega
  have m2 := mx_eq 0 (wrap64 ((K2.length : Int) - 1))
  have m3 := mn_eq (S.length : Int) (mx 0 (wrap64 ((K2.length : Int) - 1)))
  refine ev_pos (by omega) (ev_pos (by omega) (ev_bind_now rfl ?_))
  generalize hS2 : S.take (mn (S.length : Int) (mx 0 (wrap64 ((K2.length : Int) - 1)))).toNat = S2
  have hS2l : S2.length ≤ 30 := by rw [← hS2, List.length_take]; omega
  generalize cut140 x.f3 = hi
  refine ev_bind (enc_ev x.f0 x.f1 x.f2 hi K2 S2 p (by omega)) (ev_bind_now (rsz_eq p) ?_)
  have hf := ifin_ev
  by_cases hd : diskOk p = true
  · refine ev_pos hd (ev_bind (may_ev x.f0 x.f1 x.f2 hi K2 S2 p (by omega)) ?_)
    by_cases hm : mayOk x.f0 x.f1 x.f2 hi K2 S2 p = true
    · have e : (enc x.f0 x.f1 x.f2 hi K2 S2 p).2 = 0 := by unfold enc; rw [if_pos hd, if_pos hm, if_pos (room_two hm hK2l)]
      rw [e, hm]
      exact ev_pos (by decide) (ev_pos rfl hf)
    · have e : (enc x.f0 x.f1 x.f2 hi K2 S2 p).2 = 3 := by unfold enc; rw [if_pos hd, if_neg hm]
      rw [e, Bool.eq_false_iff.2 hm]
      exact ev_pos (by decide) (ev_neg (by decide) (ev_pos rfl hf))
  · have e : (enc x.f0 x.f1 x.f2 hi K2 S2 p).2 = 4 := by unfold enc; rw [if_neg hd]
    rw [e]
    exact ev_neg hd (ev_pos rfl hf)
end Go.Proofs.YtafebmhmcdnhkaaGreat.Pure
