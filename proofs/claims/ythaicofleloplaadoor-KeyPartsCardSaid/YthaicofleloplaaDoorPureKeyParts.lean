/- What is proved here: the pure statement of KeyParts: a key's first columns' bytes begin just the keys that begin with these columns. Conditions: none. -/
import Derived.Test.YthaicofleloplaaDoorStmtKeyParts
import Derived.Test.YthaicofleloplaaDoorKAll
set_option linter.unusedVariables false
set_option linter.unusedSimpArgs false
namespace Go.Proofs.YthaicofleloplaaDoor.Pure
open Go.RowKit Go.Proofs.YthaicofleloplaaDoor.P Go.Proofs.YthaicofleloplaaDoorW.PrintWords Go.Proofs.YthaicofleloplaaDoorW.PrintLast Go.Proofs.YthaicofleloplaaDoorW.PrintMore Go.Proofs.YthaicofleloplaaDoorEv Go.Proofs.YthaicofleloplaaDoorCol Go.Proofs.YthaicofleloplaaDoorR Go.Proofs.YthaicofleloplaaDoor.Spec

theorem bd_of {l : List S51} (h : ∀ a ∈ l, fit51 a) : ∀ c ∈ l.map c51, Bd c := by
  intro c hc
  obtain ⟨x, hx, rfl⟩ := List.mem_map.mp hc
  have hf := h x hx
  have i := wf_i64 hf.2.1
  have u := wf_u64 hf.2.2.1
  exact ⟨i.1, i.2, u.1, u.2⟩
theorem KeyParts : withylaw04_KeyParts.Pure := by
  intro x0 x1 x2 h0 h1 h2
  suffices h : Ev (fun k => withylaw04_KeyParts.f k x0 x1 x2) true by
    obtain ⟨K, hK⟩ := h; exact ⟨K, hK K (Nat.le_refl _)⟩
  obtain ⟨u0, u1⟩ := wf_u8 h2
  unfold withylaw04_KeyParts.f
  refine ev_bind (kcut_ev x0 h0.2.1) (ev_bind (kcut_ev x1 h1.2.1) ?_)
  have sa := cutC_sm (bd_of h0.2.2)
  have sb := cutC_sm (bd_of h1.2.2)
  have l1 := cutC_kput (x0.map c51)
  have l2 := cutC_kput (x1.map c51)
  have n1 := cutC_len (x0.map c51)
  generalize cutC (x0.map c51) = a at *
  generalize cutC (x1.map c51) = b at *
  have hp := kput_ev a sa
  have hq := kput_ev b sb
  have done0 : ∀ (p q : ByteArray), Ev (fun k => withylaw04_KeyParts.j0 k (a.map s51) (b.map s51) x2 p q true) true := by
    intro p q
    refine ev_step ?_
    simp only [withylaw04_KeyParts.j0]
    exact ev_pos trivial kfin_ev
  by_cases ra : ∀ c ∈ a, Right c
  rotate_left
  · rw [show kputV a = (⟨#[]⟩, 3) from if_neg ra] at hp
    exact ev_bind hp (ev_bind hq (ev_neg (by decide) (done0 _ _)))
  rw [show kputV a = (B (kput a), 0) from if_pos ra] at hp
  by_cases rb : ∀ c ∈ b, Right c
  rotate_left
  · rw [show kputV b = (⟨#[]⟩, 3) from if_neg rb] at hq
    exact ev_bind hp (ev_bind hq (ev_pos rfl (done0 _ _)))
  rw [show kputV b = (B (kput b), 0) from if_pos rb] at hq
  have wa := sa.rb ra
  have wb := sb.rb rb
  refine ev_bind hp (ev_bind hq (ev_pos rfl (ev_step ?_)))
  simp only [withylaw04_KeyParts.j0, len_map51]
  have hw : wrap64 ((a.length : Int) + 1) = ((a.length + 1 : Nat) : Int) := wsucc _ (by omega)
  obtain ⟨n, hn, hna⟩ : ∃ n : Nat, Int.tmod (wrap64 x2) (wrap64 ((a.length : Int) + 1)) = (n : Int) ∧ n ≤ a.length := by
    rw [hw, w64 (by omega) (by omega)]
    refine ⟨(Int.tmod x2 ((a.length + 1 : Nat) : Int)).toNat, ?_, ?_⟩
    · have := Int.tmod_nonneg ((a.length + 1 : Nat) : Int) u0
      omega
    · have h3 := Int.tmod_lt_of_pos x2 (show (0 : Int) < ((a.length + 1 : Nat) : Int) by omega)
      have := Int.tmod_nonneg ((a.length + 1 : Nat) : Int) u0
      omega
  rw [hn]
  refine ev_neg (by decide) (ev_neg (by rw [hw]; omega) ?_)
  have hpart := kpart_ev (B (kput a)) (n : Int) (by rw [B_size]; omega)
  have hv : partV (L (B (kput a))) (n : Int) = (B (body (a.take n)), 0) := by
    unfold partV
    rw [B_L, kp_back wa, if_pos rfl, if_neg (by simp only; omega), Int.toNat_natCast]
  rw [hv] at hpart
  have hlt := body_take_le a n
  have htk := kput_take a n
  have hpre := body_pre (wa.take n) wb
  rw [List.length_take, Nat.min_eq_left hna] at hpre
  have hrt : kp (L (B (body (a.take n)) ++ (⟨#[1]⟩ : ByteArray))) = (a.take n, 0) := by
    rw [L_append, B_L]
    exact kp_back (wa.take n)
  have hbl : (body (a.take n)).length ≤ 1201 := by omega
  generalize hp0 : body (a.take n) = p at *
  refine ev_bind hpart (ev_pos rfl (ev_neg (by rw [B_size, B_size]; omega) (ev_pos (by omega) (ev_pos (by rw [B_size, B_size]; omega) ?_))))
  have eq1 : (((B (kput a)).extract 0 (B p).size).toList != (B p).toList) = false := by
    rw [L_toList, L_toList, L_to, B_L, B_L, B_size, htk]
    simp
  rw [eq1]
  refine ev_step ?_
  simp only [withylaw04_KeyParts.j1, len_map51]
  refine ev_neg (by decide) (ev_pos (by rw [B_size]; omega) ?_)
  refine ev_bind (kget_of _ (by rw [ByteArray.size_append, B_size]; show p.length + 1 ≤ _; omega) hrt (fun h => absurd rfl h)) ?_
  have lt : (a.take n).length ≤ 1000 := by rw [List.length_take]; omega
  have hrefa : Ev (fun k => withylaw04_Ref.f k ((a.map s51).take n)) ((a.take n).map s56) := by
    rw [← List.map_take]; exact kref_ev _ lt
  have last : ∀ (w w2 : Bool), w = w2 → Ev (fun k => withylaw04_KeyParts.j3 k (a.map s51) (n : Int) ((a.take n).map s51) 0 w w2) true := by
    intro w w2 hw2
    have hs := ksame_ev (a.take n) (a.take n) lt
    rw [decide_eq_true rfl] at hs
    refine ev_step ?_
    simp only [withylaw04_KeyParts.j3, len_map51, Int.toNat_natCast]
    exact ev_pos trivial (ev_bind (kref_ev _ lt) (ev_pos (by omega) (ev_pos (by omega) (ev_bind hrefa (ev_bind hs (ev_pos rfl (ev_pos (by rw [hw2]; simp) kfin_ev)))))))
  have last2 : ∀ w : Bool, w = decide (b.take n = a.take n) → Ev (fun k => withylaw04_KeyParts.j2 k (a.map s51) (B (kput b)) (n : Int) (B p) ((a.take n).map s51) 0 w) true := by
    intro w hw2
    refine ev_step ?_
    simp only [withylaw04_KeyParts.j2]
    have et : ((B (kput b)).extract 0 (B p).size).toList = (kput b).take p.length := by rw [L_toList, L_to, B_L, B_size]
    by_cases hc : ((B (kput b)).size : Int) ≥ ((B p).size : Int)
    · refine ev_pos hc (ev_pos (by omega) (ev_pos (by omega) (last _ _ ?_)))
      rw [hw2, et, L_toList, B_L]
      by_cases q : b.take n = a.take n
      · rw [hpre.mpr q, decide_eq_true q]; simp
      · rw [decide_eq_false q]
        exact (beq_eq_false_iff_ne.mpr fun e => q (hpre.mp e)).symm
    · refine ev_neg hc (last _ _ ?_)
      rw [hw2]
      refine decide_eq_false fun q => ?_
      have := congrArg List.length (hpre.mpr q)
      rw [B_size, B_size] at hc
      rw [List.length_take] at this
      omega
  by_cases hb : (b.length : Int) ≥ (n : Int)
  · have hmn : mn (n : Int) (b.length : Int) = (n : Int) := by rw [mn_eq]; omega
    rw [hmn, Int.toNat_natCast]
    have lt2 : (b.take n).length ≤ 1000 := by rw [List.length_take]; omega
    have hrefb : Ev (fun k => withylaw04_Ref.f k ((b.map s51).take n)) ((b.take n).map s56) := by
      rw [← List.map_take]; exact kref_ev _ lt2
    refine ev_pos hb (ev_pos (by omega) (ev_pos (by omega) (ev_bind hrefb (ev_pos (by omega) (ev_pos (by omega) (ev_bind hrefa (ev_bind (ksame_ev _ _ lt2) (last2 _ rfl))))))))
  · refine ev_neg hb (last2 _ (decide_eq_false fun q => ?_).symm)
    have := congrArg List.length q
    rw [List.length_take, List.length_take] at this
    omega
end Go.Proofs.YthaicofleloplaaDoor.Pure
