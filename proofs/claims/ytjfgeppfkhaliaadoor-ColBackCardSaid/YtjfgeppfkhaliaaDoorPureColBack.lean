/- What is proved here: the pure statement of ColBack: a column is got as it was put. Conditions: none. -/
import Derived.Test.YtjfgeppfkhaliaaDoorStmtColBack
import Derived.Test.YtjfgeppfkhaliaaDoorCFixed
set_option linter.unusedVariables false
set_option linter.unusedSimpArgs false
namespace Go.Proofs.YtjfgeppfkhaliaaDoor.Pure
open Go.RowKit Go.Proofs.YtjfgeppfkhaliaaDoor.P Go.Proofs.YtjfgeppfkhaliaaDoorW.PrintWords Go.Proofs.YtjfgeppfkhaliaaDoorW.PrintLast Go.Proofs.YtjfgeppfkhaliaaDoorW.PrintMore Go.Proofs.YtjfgeppfkhaliaaDoorEv Go.Proofs.YtjfgeppfkhaliaaDoorCol Go.Proofs.YtjfgeppfkhaliaaDoorR Go.Proofs.YtjfgeppfkhaliaaDoor.Spec

theorem fin_ev : Ev (fun k => (withylaw03_fixed.f k).bind fun t => some t) true := ev_bind fixed_ev ev_some
theorem cput_le {c : Cl} (h : c.s.length ≤ 60) : (cput c).length ≤ 200 := by
  have e : (cput c).length = (ctail c).length + 1 := rfl
  rw [e]
  have h1 := wput_length c.u.toNat
  have h2 := wcount_le c.u.toNat
  have h3 := escL_le c.s
  unfold ctail
  repeat' split
  · rw [be_length]; omega
  · omega
  · rw [List.length_append]; simp; omega
  · simp
theorem app_L (a b : ByteArray) : a ++ b = B (L a ++ L b) := L_inj (by rw [B_L, L_append])
theorem ColBack : withylaw03_ColBack.Pure := by
  intro x0 x1 x2 h0 h1 h2
  suffices h : Ev (fun k => withylaw03_ColBack.f k x0.f0 x0.f1 x0.f2 x0.f3 x1.f0 x1.f1 x2) true by
    obtain ⟨K, hK⟩ := h; exact ⟨K, hK K (Nat.le_refl _)⟩
  obtain ⟨_, ⟨a1, a2⟩, ⟨a3, a4⟩, _⟩ := (⟨h0.1, wf_i64 h0.2.1, wf_u64 h0.2.2.1, h0.2.2.2⟩ : _ ∧ _ ∧ _ ∧ _)
  obtain ⟨u0, u1⟩ := wf_u8 h2
  unfold withylaw03_ColBack.f
  refine ev_bind_now (cut_eq _ _ _ _) ?_
  have m0 : 0 ≤ mn (x1.f0.size : Int) 20 ∧ mn (x1.f0.size : Int) 20 ≤ (x1.f0.size : Int) := mn_bounds x1.f0 20
  have m1 : 0 ≤ mn (x1.f1.size : Int) 20 ∧ mn (x1.f1.size : Int) 20 ≤ (x1.f1.size : Int) := mn_bounds x1.f1 20
  have e0 : x1.f0.extract 0 ((mn (x1.f0.size : Int) 20) : Int).toNat = cutS x1.f0 20 := extract_cut x1.f0 20
  have e1 : x1.f1.extract 0 ((mn (x1.f1.size : Int) 20) : Int).toNat = cutS x1.f1 20 := extract_cut x1.f1 20
  refine ev_pos m0.1 (ev_pos m0.2 (ev_pos m1.1 (ev_pos m1.2 ?_)))
  rw [e0, e1]
  have hs := cutS_size x0.f3 60
  have hp := cutS_size x1.f0 20
  have hq := cutS_size x1.f1 20
  generalize cutS x0.f3 60 = s at *
  generalize cutS x1.f0 20 = p at *
  generalize cutS x1.f1 20 = q at *
  clear m0 m1 e0 e1
  have bc : Bd ⟨x0.f0, x0.f1, x0.f2, L s⟩ := ⟨a1, a2, a3, a4⟩
  have hput := cput_ev x0.f0 x0.f1 x0.f2 s bc (by omega)
  unfold putV at hput
  by_cases rc : Right ⟨x0.f0, x0.f1, x0.f2, L s⟩
  rotate_left
  · rw [if_neg rc] at hput
    refine ev_bind hput (ev_neg (by decide) (ev_step ?_))
    simp only [withylaw03_ColBack.j0]
    have hr := right_ev x0.f0 x0.f1 x0.f2 s a3
    rw [decide_eq_false rc] at hr
    exact ev_pos trivial (ev_pos trivial (ev_pos (by rw [L_toList]) (ev_bind hr (ev_neg (by decide) fin_ev))))
  rw [if_pos rc] at hput
  refine ev_bind hput (ev_pos rfl (ev_step ?_))
  simp only [withylaw03_ColBack.j0]
  have hlen : (L s).length ≤ 60 := by rw [L_length]; exact hs
  have hle := cput_le (c := ⟨x0.f0, x0.f1, x0.f2, L s⟩) hlen
  have hpos : 0 < (cput ⟨x0.f0, x0.f1, x0.f2, L s⟩).length := Nat.zero_lt_succ _
  have hback := cparse_back rc bc (L q)
  have hshort := fun j => cparse_short rc bc (j := j)
  have hkd : B (L s) = s := B_self s
  generalize hl : cput ⟨x0.f0, x0.f1, x0.f2, L s⟩ = l at *
  have hsz : (B l).size = l.length := B_size l
  refine ev_neg (by rw [hsz]; simp; exact fun h => by rw [h] at hpos; simp at hpos) (ev_pos (by rw [hsz]; omega) (ev_pos (by rw [ByteArray.size_append, hsz]; omega) ?_))
  have eA : (p ++ B l) ++ q = B (L p ++ (l ++ L q)) := L_inj (by rw [L_append, L_append, B_L, B_L, List.append_assoc])
  have hA := get_ev (B (L p ++ (l ++ L q))) (p.size : Int) (by rw [B_size, List.length_append, List.length_append, L_length, L_length]; omega)
  have vA : getV (B (L p ++ (l ++ L q))) (p.size : Int) = (x0.f0, x0.f1, x0.f2, s, ((p.size + l.length : Nat) : Int), 0) := by
    unfold getV
    rw [if_neg (by rw [B_size, List.length_append, L_length]; omega), Int.toNat_natCast, B_L, List.drop_append, L_length, Nat.sub_self, List.drop_zero, List.drop_eq_nil_of_le (by rw [L_length]; exact Nat.le_refl _), List.nil_append, hback]
    unfold gres
    rw [if_pos rfl]
    simp only
    rw [hkd]
  rw [eA]
  rw [vA] at hA
  refine ev_bind hA (ev_neg (by rw [hsz]; omega) ?_)
  have hw : wrap64 x2 = x2 := w64 (by omega) (by omega)
  obtain ⟨m, hm⟩ : ∃ m : Nat, Int.tmod (wrap64 x2) ((B l).size : Int) = (m : Int) ∧ m < l.length := by
    rw [hw, hsz]
    refine ⟨(Int.tmod x2 (l.length : Int)).toNat, ?_, ?_⟩
    · have := Int.tmod_nonneg (l.length : Int) u0
      omega
    · have h3 := Int.tmod_lt_of_pos x2 (show (0 : Int) < (l.length : Int) by omega)
      have := Int.tmod_nonneg (l.length : Int) u0
      omega
  rw [hm.1]
  have eX : (B l).extract 0 ((m : Int)).toNat = B (l.take m) := L_inj (by rw [Int.toNat_natCast, L_to, B_L, B_L])
  refine ev_pos (by omega) (ev_pos (by rw [hsz]; omega) ?_)
  rw [eX]
  refine ev_pos (by rw [B_size, List.length_take]; omega) ?_
  have eB : p ++ B (l.take m) = B (L p ++ l.take m) := L_inj (by rw [L_append, B_L, B_L])
  have hB := get_ev (B (L p ++ l.take m)) (p.size : Int) (by rw [B_size, List.length_append, L_length, List.length_take]; omega)
  have vB : getV (B (L p ++ l.take m)) (p.size : Int) = (0, 0, 0, ⟨#[]⟩, 0, 7) := by
    unfold getV
    rw [if_neg (by rw [B_size, List.length_append, L_length]; omega), Int.toNat_natCast, B_L, List.drop_append, L_length, Nat.sub_self, List.drop_zero, List.drop_eq_nil_of_le (by rw [L_length]; exact Nat.le_refl _), List.nil_append, hshort m hm.2]
    rfl
  rw [eB]
  rw [vB] at hB
  refine ev_bind hB (ev_pos (by simp) (ev_pos ?_ (ev_pos rfl (ev_pos rfl fin_ev))))
  show ((p.size + l.length : Nat) : Int) = _
  rw [hsz, w64 (by omega) (by omega)]
  omega
end Go.Proofs.YtjfgeppfkhaliaaDoor.Pure
