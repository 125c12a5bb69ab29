/- What is proved here: the pure statement of ColOrder: columns' bytes are in the order of the columns. Conditions: none. -/
import Derived.Test.YtjfgeppfkhaliaaDoorStmtColOrder
import Derived.Test.YtjfgeppfkhaliaaDoorCFixed
set_option linter.unusedVariables false
set_option linter.unusedSimpArgs false
namespace Go.Proofs.YtjfgeppfkhaliaaDoor.Pure
open Go.RowKit Go.Proofs.YtjfgeppfkhaliaaDoor.P Go.Proofs.YtjfgeppfkhaliaaDoorW.PrintWords Go.Proofs.YtjfgeppfkhaliaaDoorW.PrintLast Go.Proofs.YtjfgeppfkhaliaaDoorW.PrintMore Go.Proofs.YtjfgeppfkhaliaaDoorEv Go.Proofs.YtjfgeppfkhaliaaDoorCol Go.Proofs.YtjfgeppfkhaliaaDoorR Go.Proofs.YtjfgeppfkhaliaaDoor.Spec

theorem fin_ev : Ev (fun k => (withylaw03_fixed.f k).bind fun t => some t) true := ev_bind fixed_ev ev_some
theorem cput_le {c : Cl} (h : c.s.length ≤ 60) : (cput c).length ≤ 200 := by
  have e : (cput c).length = (ctail c).length + 1 := rfl
  rw [e]
  have h1 := wput_length c.u.toNat
  have h2 := wcount_le c.u.toNat
  have h3 := escL_le c.s
  unfold ctail
  repeat' split
  · rw [be_length]; omega
  · omega
  · rw [List.length_append]; simp; omega
  · simp
theorem ccmp_self (a : Cl) : ccmp a a = 0 := by rcases ccmp_cases a a with ⟨h, k⟩ | ⟨h, _⟩ | ⟨h, k⟩ <;> omega
theorem same_eq (a b : Cl) : (a.kd == b.kd && (a.i == b.i && (a.u == b.u && (a.s == b.s)))) = decide (ccmp a b = 0) := by
  by_cases e : a = b
  · subst e; rw [ccmp_self]; simp
  · have h : ccmp a b ≠ 0 := by rcases ccmp_cases a b with ⟨h, _⟩ | ⟨h, _, e'⟩ | ⟨h, _⟩ <;> first | omega | exact absurd e' e
    rw [decide_eq_false h]
    by_cases q1 : a.kd = b.kd <;> by_cases q2 : a.i = b.i <;> by_cases q3 : a.u = b.u <;> by_cases q4 : a.s = b.s <;> simp [q1, q2, q3, q4]
    exact e (Cl.ext' q1 q2 q3 q4)
/-- What the law asks of a comparison and two lists of bytes. -/
structure Ord (c : Int) (l m : List UInt8) : Prop where
  less : (decide (c < 0) == Op.bytesLess l m) = true
  same : ((c == 0) == (l == m)) = true
  pre : (m.take l.length = l) ∨ (l.take m.length = m) → c = 0
  eq : c = 0 → l = m
  behind : ∀ x y, c ≠ 0 → (decide (c < 0) == Op.bytesLess (l ++ x) (m ++ y)) = true
theorem ord_of {a b : Cl} (ra : Right a) (rb : Right b) (ba : Bd a) (bb : Bd b) : Ord (ccmp a b) (cput a) (cput b) := by
  rcases ccmp_cases a b with ⟨h, _⟩ | ⟨h, _, e⟩ | ⟨h, k⟩
  · have hb := cput_before ra rb ba bb h
    rw [h]
    exact ⟨by rw [hb.less]; rfl, by rw [beq_eq_false_iff_ne.mpr hb.ne]; rfl, fun q => by rcases q with q | q; exact absurd q hb.not_prefix.1; exact absurd q hb.not_prefix.2, fun q => by omega, fun x y _ => by rw [(hb.append x y).less]; rfl⟩
  · subst e
    rw [h]
    exact ⟨by rw [show Op.bytesLess (cput a) (cput a) = false from Go.Proofs.YtjfgeppfkhaliaaDoorMath.lt_irrefl _]; rfl, by simp, fun _ => rfl, fun _ => rfl, fun _ _ q => absurd rfl q⟩
  · have hb := cput_before rb ra bb ba k
    rw [h]
    exact ⟨by rw [hb.not_less]; rfl, by rw [beq_eq_false_iff_ne.mpr hb.ne.symm]; rfl, fun q => by rcases q with q | q; exact absurd q hb.not_prefix.2; exact absurd q hb.not_prefix.1, fun q => by omega, fun x y _ => by rw [(hb.append y x).not_less]; rfl⟩
theorem ColOrder : withylaw03_ColOrder.Pure := by
  intro x0 x1 x2 h0 h1 h2
  suffices h : Ev (fun k => withylaw03_ColOrder.f k x0.f0 x0.f1 x0.f2 x0.f3 x1.f0 x1.f1 x1.f2 x1.f3 x2.f0 x2.f1) true by
    obtain ⟨K, hK⟩ := h; exact ⟨K, hK K (Nat.le_refl _)⟩
  obtain ⟨_, ⟨a1, a2⟩, ⟨a3, a4⟩, _⟩ := (⟨h0.1, wf_i64 h0.2.1, wf_u64 h0.2.2.1, h0.2.2.2⟩ : _ ∧ _ ∧ _ ∧ _)
  obtain ⟨_, ⟨b1, b2⟩, ⟨b3, b4⟩, _⟩ := (⟨h1.1, wf_i64 h1.2.1, wf_u64 h1.2.2.1, h1.2.2.2⟩ : _ ∧ _ ∧ _ ∧ _)
  unfold withylaw03_ColOrder.f
  refine ev_bind_now (cut_eq _ _ _ _) (ev_bind_now (cut_eq _ _ _ _) ?_)
  have hs := cutS_size x0.f3 60
  have ht := cutS_size x1.f3 60
  generalize cutS x0.f3 60 = s at *
  generalize cutS x1.f3 60 = t at *
  have ba : Bd ⟨x0.f0, x0.f1, x0.f2, L s⟩ := ⟨a1, a2, a3, a4⟩
  have bb : Bd ⟨x1.f0, x1.f1, x1.f2, L t⟩ := ⟨b1, b2, b3, b4⟩
  have hp := cput_ev x0.f0 x0.f1 x0.f2 s ba (by omega)
  have hq := cput_ev x1.f0 x1.f1 x1.f2 t bb (by omega)
  unfold putV at hp hq
  have done0 : ∀ (p q : ByteArray), Ev (fun k => withylaw03_ColOrder.j0 k p q true x0.f0 x0.f1 x0.f2 s x1.f0 x1.f1 x1.f2 t x2.f0 x2.f1) true := by
    intro p q
    refine ev_step ?_
    simp only [withylaw03_ColOrder.j0]
    exact ev_pos trivial fin_ev
  by_cases ra : Right ⟨x0.f0, x0.f1, x0.f2, L s⟩
  rotate_left
  · rw [if_neg ra] at hp
    refine ev_bind hp (ev_bind hq (ev_neg (by decide) (done0 _ _)))
  by_cases rb : Right ⟨x1.f0, x1.f1, x1.f2, L t⟩
  rotate_left
  · rw [if_neg rb] at hq
    rw [if_pos ra] at hp
    refine ev_bind hp (ev_bind hq (ev_pos rfl (done0 _ _)))
  rw [if_pos ra] at hp
  rw [if_pos rb] at hq
  refine ev_bind hp (ev_bind hq (ev_pos rfl (ev_step ?_)))
  simp only [withylaw03_ColOrder.j0]
  have m0 : 0 ≤ mn (x2.f0.size : Int) 20 ∧ mn (x2.f0.size : Int) 20 ≤ (x2.f0.size : Int) := mn_bounds x2.f0 20
  have m1 : 0 ≤ mn (x2.f1.size : Int) 20 ∧ mn (x2.f1.size : Int) 20 ≤ (x2.f1.size : Int) := mn_bounds x2.f1 20
  have e0 : x2.f0.extract 0 ((mn (x2.f0.size : Int) 20) : Int).toNat = cutS x2.f0 20 := extract_cut x2.f0 20
  have e1 : x2.f1.extract 0 ((mn (x2.f1.size : Int) 20) : Int).toNat = cutS x2.f1 20 := extract_cut x2.f1 20
  rw [e0, e1]
  have hu := cutS_size x2.f0 20
  have hv := cutS_size x2.f1 20
  generalize cutS x2.f0 20 = u at *
  generalize cutS x2.f1 20 = v at *
  clear e0 e1
  have hcmp := compare_ev x0.f0 x0.f1 x0.f2 s x1.f0 x1.f1 x1.f2 t
  have hord := ord_of ra rb ba bb
  have hse := same_eq ⟨x0.f0, x0.f1, x0.f2, L s⟩ ⟨x1.f0, x1.f1, x1.f2, L t⟩
  simp only at hse
  have l1 := cput_le (c := ⟨x0.f0, x0.f1, x0.f2, L s⟩) (by simp only; rw [L_length]; exact hs)
  have l2 := cput_le (c := ⟨x1.f0, x1.f1, x1.f2, L t⟩) (by simp only; rw [L_length]; exact ht)
  generalize ccmp ⟨x0.f0, x0.f1, x0.f2, L s⟩ ⟨x1.f0, x1.f1, x1.f2, L t⟩ = c at *
  generalize cput ⟨x0.f0, x0.f1, x0.f2, L s⟩ = l at *
  generalize cput ⟨x1.f0, x1.f1, x1.f2, L t⟩ = m at *
  have z1 : (B l).size = l.length := B_size l
  have z2 : (B m).size = m.length := B_size m
  have hstruct : ((c == 0) == (x0.f0 == x1.f0 && (x0.f1 == x1.f1 && (x0.f2 == x1.f2 && (s.toList == t.toList))))) = true := by
    rw [L_toList, L_toList, hse]
    by_cases q : c = 0 <;> simp [q]
  refine ev_neg (by decide) (ev_pos m0.1 (ev_pos m0.2 (ev_pos (by omega) (ev_pos m1.1 (ev_pos m1.2 (ev_pos (by omega) ?_))))))
  have tail : ∀ (w : Bool), w = (c == 0) → Ev (fun k => (col_Compare.f k x0.f0 x0.f1 x0.f2 s x1.f0 x1.f1 x1.f2 t).bind fun t' => (if ((decide (t' < 0)) == (Op.bytesLess (B l).toList (B m).toList)) = true then (if ((t' == 0) == ((B l).toList == (B m).toList)) = true then (if (w == (t' == 0)) = true then (if t' = 0 then (if ((t' == 0) == (x0.f0 == x1.f0 && (x0.f1 == x1.f1 && (x0.f2 == x1.f2 && (s.toList == t.toList))))) = true then ((withylaw03_fixed.f k).bind fun t => (some t)) else (none)) else (if ((decide (t' < 0)) == (Op.bytesLess (((B l) ++ u).toList) (((B m) ++ v).toList))) = true then (if ((t' == 0) == (x0.f0 == x1.f0 && (x0.f1 == x1.f1 && (x0.f2 == x1.f2 && (s.toList == t.toList))))) = true then ((withylaw03_fixed.f k).bind fun t => (some t)) else (none)) else (none))) else (none)) else (none)) else (none))) true := by
    intro w hw
    refine ev_bind hcmp (ev_pos (by rw [L_toList, L_toList, B_L, B_L]; exact hord.less) (ev_pos (by rw [L_toList, L_toList, B_L, B_L]; exact hord.same) (ev_pos (by rw [hw]; simp) ?_)))
    by_cases q : c = 0
    · exact ev_pos q (ev_pos hstruct fin_ev)
    · exact ev_neg q (ev_pos (by rw [L_toList, L_toList, L_append, L_append, B_L, B_L]; exact hord.behind _ _ q) (ev_pos hstruct fin_ev))
  have eM : ((B m).extract 0 (B l).size).toList = m.take l.length := by rw [L_toList, L_to, B_L, z1]
  have eL : ((B l).extract 0 (B m).size).toList = l.take m.length := by rw [L_toList, L_to, B_L, z2]
  have tm : (B m).toList = m := by rw [L_toList, B_L]
  have tl : (B l).toList = l := by rw [L_toList, B_L]
  have back : ((B m).size : Int) ≤ ((B l).size : Int) → (((B l).extract 0 (B m).size).toList == (B m).toList) = (c == 0) := by
    intro h
    rw [eL, tm]
    by_cases q : c = 0
    · have := hord.eq q
      subst this
      rw [q, List.take_of_length_le (Nat.le_refl _)]; simp
    · have : l.take m.length ≠ m := fun e => q (hord.pre (.inr e))
      rw [beq_eq_false_iff_ne.mpr this, beq_eq_false_iff_ne.mpr q]
  have none_ : ¬ ((B m).size : Int) ≤ ((B l).size : Int) → (false : Bool) = (c == 0) := by
    intro h
    have q : c ≠ 0 := fun q => by have := hord.eq q; subst this; omega
    simp [q]
  by_cases c1 : ((B l).size : Int) ≤ ((B m).size : Int)
  · refine ev_pos c1 (ev_pos (by omega) ?_)
    by_cases c2 : ((B m).extract 0 (B l).size).toList = (B l).toList
    · refine ev_pos c2 (tail true ?_)
      rw [eM, tl] at c2
      have hc0 := hord.pre (.inl c2)
      rw [hc0]; rfl
    · refine ev_neg c2 ?_
      by_cases c3 : ((B m).size : Int) ≤ ((B l).size : Int)
      · exact ev_pos c3 (ev_pos (by omega) (tail _ (back c3)))
      · exact ev_neg c3 (tail _ (none_ c3))
  · refine ev_neg c1 ?_
    by_cases c3 : ((B m).size : Int) ≤ ((B l).size : Int)
    · exact ev_pos c3 (ev_pos (by omega) (tail _ (back c3)))
    · exact ev_neg c3 (tail _ (none_ c3))
end Go.Proofs.YtjfgeppfkhaliaaDoor.Pure
