/- What is proved here: the pure statement of KeyBack: a key is got as it was put. Conditions: none. -/
import Derived.Test.YthaicofleloplaaDoorStmtKeyBack
import Derived.Test.YthaicofleloplaaDoorKAll
set_option linter.unusedVariables false
set_option linter.unusedSimpArgs false
namespace Go.Proofs.YthaicofleloplaaDoor.Pure
open Go.RowKit Go.Proofs.YthaicofleloplaaDoor.P Go.Proofs.YthaicofleloplaaDoorW.PrintWords Go.Proofs.YthaicofleloplaaDoorW.PrintLast Go.Proofs.YthaicofleloplaaDoorW.PrintMore Go.Proofs.YthaicofleloplaaDoorEv Go.Proofs.YthaicofleloplaaDoorCol Go.Proofs.YthaicofleloplaaDoorR Go.Proofs.YthaicofleloplaaDoor.Spec

theorem bd_of {l : List S51} (h : ∀ a ∈ l, fit51 a) : ∀ c ∈ l.map c51, Bd c := by
  intro c hc
  obtain ⟨x, hx, rfl⟩ := List.mem_map.mp hc
  have hf := h x hx
  have i := wf_i64 hf.2.1
  have u := wf_u64 hf.2.2.1
  exact ⟨i.1, i.2, u.1, u.2⟩
theorem KeyBack : withylaw04_KeyBack.Pure := by
  intro x0 x1 x2 h0 h1 h2
  suffices h : Ev (fun k => withylaw04_KeyBack.f k x0 x1 x2) true by
    obtain ⟨K, hK⟩ := h; exact ⟨K, hK K (Nat.le_refl _)⟩
  obtain ⟨u0, u1⟩ := wf_u8 h1
  obtain ⟨v0, v1⟩ := wf_u8 h2
  unfold withylaw04_KeyBack.f
  refine ev_bind (kcut_ev x0 h0.2.1) ?_
  have hsm := cutC_sm (bd_of h0.2.2)
  have hle := cutC_kput (x0.map c51)
  generalize cutC (x0.map c51) = cs at *
  have hbd : ∀ c ∈ cs, Bd c := fun c hc => (hsm.each c hc).1
  have hput := kput_ev cs hsm
  have hright := kright_ev cs hbd hsm.len
  by_cases hall : ∀ c ∈ cs, Right c
  rotate_left
  · rw [show kputV cs = (⟨#[]⟩, 3) from if_neg hall] at hput
    rw [decide_eq_false hall] at hright
    refine ev_bind hput (ev_neg (by decide) (ev_step ?_))
    simp only [withylaw04_KeyBack.j0]
    exact ev_pos trivial (ev_pos trivial (ev_pos (by rw [L_toList]) (ev_bind hright (ev_neg (by decide) kfin_ev))))
  have hr := hsm.rb hall
  rw [show kputV cs = (B (kput cs), 0) from if_pos hall] at hput
  refine ev_bind hput (ev_pos rfl (ev_step ?_))
  simp only [withylaw04_KeyBack.j0]
  have hpos : 0 < (kput cs).length := by unfold kput; rw [List.length_append]; simp
  have hback := kp_back hr
  have hshort := fun j => kp_short hr (j := j)
  have hover := fun x => kp_over hr (x := x)
  generalize hl : kput cs = l at *
  have hsz : (B l).size = l.length := B_size l
  refine ev_neg (by rw [hsz, beq_iff_eq]; omega) ?_
  refine ev_bind (kget_of (B l) (by omega) (show kp (L (B l)) = (cs, 0) by rw [B_L]; exact hback) (fun h => absurd rfl h)) (ev_neg (by rw [hsz]; omega) ?_)
  have hw : wrap64 x1 = x1 := w64 (by omega) (by omega)
  obtain ⟨m, hm⟩ : ∃ m : Nat, Int.tmod (wrap64 x1) ((B l).size : Int) = (m : Int) ∧ m < l.length := by
    rw [hw, hsz]
    refine ⟨(Int.tmod x1 (l.length : Int)).toNat, ?_, ?_⟩
    · have := Int.tmod_nonneg (l.length : Int) u0
      omega
    · have h3 := Int.tmod_lt_of_pos x1 (show (0 : Int) < (l.length : Int) by omega)
      have := Int.tmod_nonneg (l.length : Int) u0
      omega
  rw [hm.1]
  refine ev_pos (by omega) (ev_pos (by rw [hsz]; omega) ?_)
  have eX : (B l).extract 0 ((m : Int)).toNat = B (l.take m) := L_inj (by rw [Int.toNat_natCast, L_to, B_L, B_L])
  rw [eX]
  refine ev_bind (kget_of (B (l.take m)) (by rw [B_size, List.length_take]; omega) (show kp (L (B (l.take m))) = ([], 7) by rw [B_L]; exact hshort m hm.2) (fun _ => rfl)) (ev_bind_now rfl ?_)
  have eS : strOfNums [x2] = B [UInt8.ofNat x2.toNat] := by
    have := one_eq x2.toNat (by omega)
    rw [show ((x2.toNat : Nat) : Int) = x2 by omega] at this
    exact this
  rw [eS, B_size, B_size, B_append]
  refine ev_pos (by simp only [List.length_cons, List.length_nil]; omega) ?_
  refine ev_bind (kget_of (B (l ++ [UInt8.ofNat x2.toNat])) (by rw [B_size, List.length_append]; simp only [List.length_cons, List.length_nil]; omega) (show kp (L (B _)) = ([], 3) by rw [B_L]; exact hover _ (by simp)) (fun _ => rfl)) ?_
  have hsame := ksame_ev cs cs hsm.len
  rw [decide_eq_true rfl] at hsame
  exact ev_bind (kref_ev cs hsm.len) (ev_bind (kref_ev cs hsm.len) (ev_bind hsame (ev_pos rfl (ev_pos rfl (ev_pos rfl (ev_pos rfl kfin_ev))))))
end Go.Proofs.YthaicofleloplaaDoor.Pure
