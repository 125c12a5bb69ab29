/- What is proved here: the pure statement of KeyOrder: keys' bytes are in the order of the keys. Conditions: none. -/
import Derived.Test.YthaicofleloplaaDoorStmtKeyOrder
import Derived.Test.YthaicofleloplaaDoorKAll
set_option linter.unusedVariables false
set_option linter.unusedSimpArgs false
namespace Go.Proofs.YthaicofleloplaaDoor.Pure
open Go.RowKit Go.Proofs.YthaicofleloplaaDoor.P Go.Proofs.YthaicofleloplaaDoorW.PrintWords Go.Proofs.YthaicofleloplaaDoorW.PrintLast Go.Proofs.YthaicofleloplaaDoorW.PrintMore Go.Proofs.YthaicofleloplaaDoorEv Go.Proofs.YthaicofleloplaaDoorCol Go.Proofs.YthaicofleloplaaDoorR Go.Proofs.YthaicofleloplaaDoor.Spec

theorem bd_of {l : List S51} (h : ∀ a ∈ l, fit51 a) : ∀ c ∈ l.map c51, Bd c := by
  intro c hc
  obtain ⟨x, hx, rfl⟩ := List.mem_map.mp hc
  have hf := h x hx
  have i := wf_i64 hf.2.1
  have u := wf_u64 hf.2.2.1
  exact ⟨i.1, i.2, u.1, u.2⟩
theorem KeyOrder : withylaw04_KeyOrder.Pure := by
  intro x0 x1 x2 h0 h1 h2
  suffices h : Ev (fun k => withylaw04_KeyOrder.f k x0 x1 x2.f0 x2.f1) true by
    obtain ⟨K, hK⟩ := h; exact ⟨K, hK K (Nat.le_refl _)⟩
  unfold withylaw04_KeyOrder.f
  refine ev_bind (kcut_ev x0 h0.2.1) (ev_bind (kcut_ev x1 h1.2.1) ?_)
  have sa := cutC_sm (bd_of h0.2.2)
  have sb := cutC_sm (bd_of h1.2.2)
  have l1 := cutC_kput (x0.map c51)
  have l2 := cutC_kput (x1.map c51)
  generalize cutC (x0.map c51) = a at *
  generalize cutC (x1.map c51) = b at *
  have hp := kput_ev a sa
  have hq := kput_ev b sb
  have ga := kright_ev a (fun c hc => (sa.each c hc).1) sa.len
  have gb := kright_ev b (fun c hc => (sb.each c hc).1) sb.len
  have done0 : ¬ ((∀ c ∈ a, Right c) ∧ ∀ c ∈ b, Right c) → ∀ (p q : ByteArray), Ev (fun k => withylaw04_KeyOrder.j0 k (a.map s51) (b.map s51) p q true x2.f0 x2.f1) true := by
    intro hno p q
    refine ev_step ?_
    simp only [withylaw04_KeyOrder.j0]
    refine ev_pos trivial (ev_bind ga ?_)
    by_cases ra : ∀ c ∈ a, Right c
    · exact ev_pos (decide_eq_true ra) (ev_bind gb (ev_neg (by rw [decide_eq_false (fun rb => hno ⟨ra, rb⟩)]; decide) kfin_ev))
    · exact ev_neg (by rw [decide_eq_false ra]; decide) kfin_ev
  by_cases ra : ∀ c ∈ a, Right c
  rotate_left
  · rw [show kputV a = (⟨#[]⟩, 3) from if_neg ra] at hp
    exact ev_bind hp (ev_bind hq (ev_neg (by decide) (done0 (fun h => ra h.1) _ _)))
  by_cases rb : ∀ c ∈ b, Right c
  rotate_left
  · rw [show kputV b = (⟨#[]⟩, 3) from if_neg rb] at hq
    rw [show kputV a = (B (kput a), 0) from if_pos ra] at hp
    exact ev_bind hp (ev_bind hq (ev_pos rfl (done0 (fun h => rb h.2) _ _)))
  rw [show kputV a = (B (kput a), 0) from if_pos ra] at hp
  rw [show kputV b = (B (kput b), 0) from if_pos rb] at hq
  refine ev_bind hp (ev_bind hq (ev_pos rfl (ev_step ?_)))
  simp only [withylaw04_KeyOrder.j0]
  have m0 : 0 ≤ mn (x2.f0.size : Int) 20 ∧ mn (x2.f0.size : Int) 20 ≤ (x2.f0.size : Int) := mn_bounds x2.f0 20
  have m1 : 0 ≤ mn (x2.f1.size : Int) 20 ∧ mn (x2.f1.size : Int) 20 ≤ (x2.f1.size : Int) := mn_bounds x2.f1 20
  have e0 : x2.f0.extract 0 ((mn (x2.f0.size : Int) 20) : Int).toNat = cutS x2.f0 20 := extract_cut x2.f0 20
  have e1 : x2.f1.extract 0 ((mn (x2.f1.size : Int) 20) : Int).toNat = cutS x2.f1 20 := extract_cut x2.f1 20
  rw [e0, e1]
  have hu := cutS_size x2.f0 20
  have hv := cutS_size x2.f1 20
  generalize cutS x2.f0 20 = u at *
  generalize cutS x2.f1 20 = v at *
  clear e0 e1
  have hcmp := kcompare_ev a b sa.len
  have hcmp2 := kcompare_ev b a sb.len
  have hord := ord_of (sa.rb ra) (sb.rb rb)
  have hneg : kcmp b a = wrap64 (-kcmp a b) := by
    rcases kcmp_cases a b with ⟨h, k⟩ | ⟨h, k, _⟩ | ⟨h, k⟩ <;> rw [h, k, w64 (by omega) (by omega)] <;> rfl
  generalize kcmp b a = c2 at *
  generalize kcmp a b = c at *
  generalize kput a = l at *
  generalize kput b = m at *
  have z1 : (B l).size = l.length := B_size l
  have z2 : (B m).size = m.length := B_size m
  refine ev_neg (by decide) (ev_pos m0.1 (ev_pos m0.2 (ev_pos (by omega) (ev_pos m1.1 (ev_pos m1.2 (ev_pos (by omega) ?_))))))
  have tail : ∀ (w : Bool), w = (c == 0) → Ev (fun k => (key_Compare.f k (a.map s51) (b.map s51)).bind fun t => (if ((decide (t < 0)) == (Op.bytesLess (B l).toList (B m).toList)) = true then (if ((t == 0) == ((B l).toList == (B m).toList)) = true then (if (w == (t == 0)) = true then (if t = 0 then ((key_Compare.f k (b.map s51) (a.map s51)).bind fun t' => (if t' = (wrap64 (-t)) then ((withylaw04_fixed.f k).bind fun q => (some q)) else (none))) else (if ((decide (t < 0)) == (Op.bytesLess (((B l) ++ u).toList) (((B m) ++ v).toList))) = true then ((key_Compare.f k (b.map s51) (a.map s51)).bind fun t' => (if t' = (wrap64 (-t)) then ((withylaw04_fixed.f k).bind fun q => (some q)) else (none))) else (none))) else (none)) else (none)) else (none))) true := by
    intro w hw
    refine ev_bind hcmp (ev_pos (by rw [L_toList, L_toList, B_L, B_L]; exact hord.less) (ev_pos (by rw [L_toList, L_toList, B_L, B_L]; exact hord.same) (ev_pos (by rw [hw]; simp) ?_)))
    by_cases q : c = 0
    · exact ev_pos q (ev_bind hcmp2 (ev_pos hneg kfin_ev))
    · exact ev_neg q (ev_pos (by rw [L_toList, L_toList, L_append, L_append, B_L, B_L]; exact hord.behind _ _ q) (ev_bind hcmp2 (ev_pos hneg kfin_ev)))
  have eM : ((B m).extract 0 (B l).size).toList = m.take l.length := by rw [L_toList, L_to, B_L, z1]
  have eL : ((B l).extract 0 (B m).size).toList = l.take m.length := by rw [L_toList, L_to, B_L, z2]
  have tm : (B m).toList = m := by rw [L_toList, B_L]
  have tl : (B l).toList = l := by rw [L_toList, B_L]
  have back : ((B m).size : Int) ≤ ((B l).size : Int) → (((B l).extract 0 (B m).size).toList == (B m).toList) = (c == 0) := by
    intro h
    rw [eL, tm]
    by_cases q : c = 0
    · have := hord.eq q
      subst this
      rw [q, List.take_of_length_le (Nat.le_refl _)]; simp
    · have : l.take m.length ≠ m := fun e => q (hord.pre (.inr e))
      rw [beq_eq_false_iff_ne.mpr this, beq_eq_false_iff_ne.mpr q]
  have none_ : ¬ ((B m).size : Int) ≤ ((B l).size : Int) → (false : Bool) = (c == 0) := by
    intro h
    have q : c ≠ 0 := fun q => by have := hord.eq q; subst this; omega
    simp [q]
  by_cases c1 : ((B l).size : Int) ≤ ((B m).size : Int)
  · refine ev_pos c1 (ev_pos (by omega) ?_)
    by_cases c2 : ((B m).extract 0 (B l).size).toList = (B l).toList
    · refine ev_pos c2 (tail true ?_)
      rw [eM, tl] at c2
      have hc0 := hord.pre (.inl c2)
      rw [hc0]; rfl
    · refine ev_neg c2 ?_
      by_cases c3 : ((B m).size : Int) ≤ ((B l).size : Int)
      · exact ev_pos c3 (ev_pos (by omega) (tail _ (back c3)))
      · exact ev_neg c3 (tail _ (none_ c3))
  · refine ev_neg c1 ?_
    by_cases c3 : ((B m).size : Int) ≤ ((B l).size : Int)
    · exact ev_pos c3 (ev_pos (by omega) (tail _ (back c3)))
    · exact ev_neg c3 (tail _ (none_ c3))
end Go.Proofs.YthaicofleloplaaDoor.Pure
