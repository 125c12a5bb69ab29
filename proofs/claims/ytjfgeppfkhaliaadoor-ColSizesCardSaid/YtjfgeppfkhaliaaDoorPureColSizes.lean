/- What is proved here: the pure statement of ColSizes: how many bytes a column has. Conditions: none. -/
import Derived.Test.YtjfgeppfkhaliaaDoorStmtColSizes
import Derived.Test.YtjfgeppfkhaliaaDoorCFixed
set_option linter.unusedVariables false
set_option linter.unusedSimpArgs false
namespace Go.Proofs.YtjfgeppfkhaliaaDoor.Pure
open Go.RowKit Go.Proofs.YtjfgeppfkhaliaaDoor.P Go.Proofs.YtjfgeppfkhaliaaDoorW.PrintWords Go.Proofs.YtjfgeppfkhaliaaDoorW.PrintLast Go.Proofs.YtjfgeppfkhaliaaDoorW.PrintMore Go.Proofs.YtjfgeppfkhaliaaDoorEv Go.Proofs.YtjfgeppfkhaliaaDoorCol Go.Proofs.YtjfgeppfkhaliaaDoorR Go.Proofs.YtjfgeppfkhaliaaDoor.Spec

theorem fin_ev : Ev (fun k => (withylaw03_fixed.f k).bind fun t => some t) true := ev_bind fixed_ev ev_some
theorem head_kd {c : Cl} (rc : Right c) (bc : Bd c) : wrap64 (Int.tdiv (wrap64 (bt (B (cput c)) 0)) 16) = wrap64 (c.kd + 1) := by
  have e : bt (B (cput c)) ((0 : Nat) : Int) = ((L (B (cput c)))[0]'(by rw [B_L]; exact Nat.zero_lt_succ _)).toNat := bt_L _ 0 (by rw [B_L]; exact Nat.zero_lt_succ _)
  have e2 : (L (B (cput c)))[0]? = some (UInt8.ofNat (chead c)) := by rw [B_L]; rfl
  have e3 : (L (B (cput c)))[0]'(by rw [B_L]; exact Nat.zero_lt_succ _) = UInt8.ofNat (chead c) := by
    rw [List.getElem?_eq_getElem (by rw [B_L]; exact Nat.zero_lt_succ _)] at e2
    exact Option.some.inj e2
  have h := chead_lt rc bc
  rw [e3, toNat_of _ h] at e
  rw [show (0 : Int) = ((0 : Nat) : Int) from rfl, e, w64 (x := (chead c : Int)) (by omega) (by omega)]
  have hk : (chead c : Int) / 16 = c.kd + 1 := by
    have := bc.u0
    unfold chead
    rcases rc with ⟨q, _⟩ | ⟨q, _, q2, _⟩ | ⟨q, _⟩ | ⟨q, _⟩ | ⟨q, _⟩ <;> rw [q] <;> simp <;> omega
  rw [Int.tdiv_eq_ediv_of_nonneg (by omega), hk]
theorem zeros_loop (c : Cl) (bs : ByteArray) (hbs : bs = B c.s) (hs : c.s.length ≤ 60) (i u : Int) (R : ByteArray) (hfin : ∀ k4 : c.kd = 4, Ev (fun k => if (R.size : Int) = ((3 + (escL c.s).length : Nat) : Int) then (if 0 < (R.size : Int) then (if (wrap64 (Int.tdiv (wrap64 (bt R 0)) 16)) = (wrap64 ((4 : Int) + 1)) then ((withylaw03_fixed.f k).bind fun t => (some t)) else (none)) else (none)) else (none)) true) (k4 : c.kd = 4) :
    ∀ (d p : Nat), p ≤ c.s.length → c.s.length - p = d → Ev (fun k => withylaw03_ColSizes.l0 k R ((3 + c.s.length + (c.s.take p).count 0 : Nat) : Int) (p : Int) 4 i u bs) true := by
  subst hbs
  intro d
  have hz : (B c.s).size = c.s.length := B_size _
  induction d with
  | zero =>
    intro p hp hd
    obtain rfl : p = c.s.length := by omega
    refine ev_step ?_
    simp only [withylaw03_ColSizes.l0]
    refine ev_neg (by omega) (ev_neg (by omega) ?_)
    have h := hfin k4
    rw [List.take_of_length_le (Nat.le_refl _)]
    rw [escL_len] at h
    rw [show 3 + c.s.length + c.s.count 0 = 3 + (c.s.length + c.s.count 0) by omega]
    exact h
  | succ d ih =>
    intro p hp hd
    refine ev_step ?_
    simp only [withylaw03_ColSizes.l0]
    have hcnt := List.count_le_length (a := (0 : UInt8)) (l := c.s.take p)
    rw [List.length_take] at hcnt
    have hl : p < (L (B c.s)).length := by rw [B_L]; omega
    have hbt := bt_L (B c.s) p hl
    obtain ⟨b, hb⟩ : ∃ b, c.s[p]? = some b := ⟨_, List.getElem?_eq_getElem (by omega)⟩
    have hb' : (L (B c.s))[p] = b := by
      have : (L (B c.s))[p]? = some b := by rw [B_L]; exact hb
      rw [List.getElem?_eq_getElem hl] at this
      exact Option.some.inj this
    rw [hb'] at hbt
    refine ev_pos (by omega) (ev_pos (by omega) ?_)
    rw [hbt, w64_succ (by omega), w64_succ (by omega)]
    have ht : (c.s.take (p + 1)).count 0 = (c.s.take p).count 0 + if b = 0 then 1 else 0 := by
      rw [List.take_add_one, hb, List.count_append]
      by_cases q : b = 0
      · subst q; simp
      · simp [q]
    by_cases q : b = 0
    · refine ev_pos (by rw [q]; rfl) ?_
      have := ih (p + 1) (by omega) (by omega)
      rw [ht, if_pos q] at this
      exact this
    · refine ev_neg (fun e => q (by rw [← UInt8.toNat_inj]; exact Int.ofNat.inj e)) ?_
      have := ih (p + 1) (by omega) (by omega)
      rw [ht, if_neg q] at this
      exact this
theorem ColSizes : withylaw03_ColSizes.Pure := by
  intro x0 h0
  suffices h : Ev (fun k => withylaw03_ColSizes.f k x0.f0 x0.f1 x0.f2 x0.f3) true by
    obtain ⟨K, hK⟩ := h; exact ⟨K, hK K (Nat.le_refl _)⟩
  obtain ⟨_, ⟨a1, a2⟩, ⟨a3, a4⟩, _⟩ := (⟨h0.1, wf_i64 h0.2.1, wf_u64 h0.2.2.1, h0.2.2.2⟩ : _ ∧ _ ∧ _ ∧ _)
  unfold withylaw03_ColSizes.f
  refine ev_bind_now (cut_eq _ _ _ _) ?_
  have hs := cutS_size x0.f3 60
  generalize cutS x0.f3 60 = s at *
  have bc : Bd ⟨x0.f0, x0.f1, x0.f2, L s⟩ := ⟨a1, a2, a3, a4⟩
  have hput := cput_ev x0.f0 x0.f1 x0.f2 s bc (by omega)
  unfold putV at hput
  by_cases rc : Right ⟨x0.f0, x0.f1, x0.f2, L s⟩
  rotate_left
  · rw [if_neg rc] at hput
    refine ev_bind hput (ev_neg (by decide) (ev_step ?_))
    simp only [withylaw03_ColSizes.j0]
    have hr := right_ev x0.f0 x0.f1 x0.f2 s a3
    rw [decide_eq_false rc] at hr
    exact ev_pos trivial (ev_neg (by decide) (ev_pos (by rw [L_toList]) (ev_bind hr (ev_neg (by decide) fin_ev))))
  rw [if_pos rc] at hput
  refine ev_bind hput (ev_pos rfl (ev_step ?_))
  simp only [withylaw03_ColSizes.j0]
  have hk := head_kd rc bc
  have hsz : (B (cput ⟨x0.f0, x0.f1, x0.f2, L s⟩)).size = (ctail ⟨x0.f0, x0.f1, x0.f2, L s⟩).length + 1 := B_size _
  refine ev_neg (by rw [L_toList, B_L]; exact fun h => by simp [cput] at h) ?_
  simp only at hk
  have last : ∀ q : Int, ((B (cput ⟨x0.f0, x0.f1, x0.f2, L s⟩)).size : Int) = q → Ev (fun k => if ((B (cput ⟨x0.f0, x0.f1, x0.f2, L s⟩)).size : Int) = q then (if 0 < ((B (cput ⟨x0.f0, x0.f1, x0.f2, L s⟩)).size : Int) then (if (wrap64 (Int.tdiv (wrap64 (bt (B (cput ⟨x0.f0, x0.f1, x0.f2, L s⟩)) 0)) 16)) = (wrap64 (x0.f0 + 1)) then ((withylaw03_fixed.f k).bind fun t => (some t)) else (none)) else (none)) else (none)) true := fun q hq => ev_pos hq (ev_pos (by omega) (ev_pos hk fin_ev))
  rcases rc with ⟨q, q1, q2, q3⟩ | ⟨q, q1, q2, q3⟩ | ⟨q, q1, q2⟩ | ⟨q, q1, q2⟩ | ⟨q, q1, q2⟩ <;> simp only at q q1 q2
  · refine ev_neg (by omega) (ev_step ?_)
    simp only [withylaw03_ColSizes.j1]
    refine ev_neg (by omega) (ev_neg (by omega) (last 1 ?_))
    rw [hsz]; unfold ctail; rw [if_neg (by simp only; omega), if_neg (by simp only; omega), if_neg (by simp only; omega)]; rfl
  · refine ev_neg (by omega) (ev_step ?_)
    simp only [withylaw03_ColSizes.j1]
    refine ev_neg (by omega) (ev_neg (by omega) (last 1 ?_))
    rw [hsz]; unfold ctail; rw [if_neg (by simp only; omega), if_neg (by simp only; omega), if_neg (by simp only; omega)]; rfl
  · refine ev_pos q (ev_step ?_)
    simp only [withylaw03_ColSizes.j1]
    refine ev_neg (by omega) (ev_neg (by omega) (last 9 ?_))
    rw [hsz, ctail_2 q, be_length]; rfl
  · refine ev_neg (by omega) (ev_step ?_)
    simp only [withylaw03_ColSizes.j1]
    exact ev_neg (by omega) (ev_pos q (ev_pos (by omega) (ev_pos hk fin_ev)))
  · refine ev_neg (by omega) (ev_step ?_)
    simp only [withylaw03_ColSizes.j1]
    refine ev_pos q ?_
    rw [w64 (by omega) (by omega), q]
    have := zeros_loop ⟨x0.f0, x0.f1, x0.f2, L s⟩ s (B_self s).symm (by simp only; rw [L_length]; exact hs) x0.f1 x0.f2 (B (cput ⟨x0.f0, x0.f1, x0.f2, L s⟩)) (fun _ => by
      have := last ((3 + (escL (L s)).length : Nat) : Int) (by rw [hsz, ctail_4 q, List.length_append]; simp only [List.length_cons, List.length_nil]; omega)
      rw [q] at this ⊢
      exact this) q _ 0 (Nat.zero_le _) rfl
    simp only [List.take_zero, List.count_nil, Nat.add_zero] at this
    rw [q] at this
    rw [show (3 : Int) + (s.size : Int) = ((3 + (L s).length : Nat) : Int) by rw [L_length]; omega]
    exact this
end Go.Proofs.YtjfgeppfkhaliaaDoor.Pure
