/- What is proved here: the pure statement of KeyMore: a key with a column more is behind it. Conditions: none. -/
import Derived.Test.YthaicofleloplaaDoorStmtKeyMore
import Derived.Test.YthaicofleloplaaDoorKAll
set_option linter.unusedVariables false
set_option linter.unusedSimpArgs false
namespace Go.Proofs.YthaicofleloplaaDoor.Pure
open Go.RowKit Go.Proofs.YthaicofleloplaaDoor.P Go.Proofs.YthaicofleloplaaDoorW.PrintWords Go.Proofs.YthaicofleloplaaDoorW.PrintLast Go.Proofs.YthaicofleloplaaDoorW.PrintMore Go.Proofs.YthaicofleloplaaDoorEv Go.Proofs.YthaicofleloplaaDoorCol Go.Proofs.YthaicofleloplaaDoorR Go.Proofs.YthaicofleloplaaDoor.Spec

theorem bd_of {l : List S51} (h : ∀ a ∈ l, fit51 a) : ∀ c ∈ l.map c51, Bd c := by
  intro c hc
  obtain ⟨x, hx, rfl⟩ := List.mem_map.mp hc
  have hf := h x hx
  have i := wf_i64 hf.2.1
  have u := wf_u64 hf.2.2.1
  exact ⟨i.1, i.2, u.1, u.2⟩
theorem KeyMore : withylaw04_KeyMore.Pure := by
  intro x0 x1 x2 h0 h1 h2
  suffices h : Ev (fun k => withylaw04_KeyMore.f k x0 x1 x2.f0 x2.f1 x2.f2 x2.f3) true by
    obtain ⟨K, hK⟩ := h; exact ⟨K, hK K (Nat.le_refl _)⟩
  unfold withylaw04_KeyMore.f
  refine ev_bind (kcut_ev x0 h0.2.1) (ev_bind (kcut_ev x1 h1.2.1) (ev_bind_now rfl ?_))
  have hx2 : ∀ c ∈ [x2].map c51, Bd c := bd_of fun x hx => by
    obtain rfl : x = x2 := by simpa using hx
    exact h2
  have hcut := kcut_ev [x2] (by simp)
  have sa := cutC_sm (bd_of h0.2.2)
  have sb := cutC_sm (bd_of h1.2.2)
  have sc := cutC_sm hx2
  have l1 := cutC_kput (x0.map c51)
  have l2 := cutC_kput (x1.map c51)
  have n1 := cutC_len (x0.map c51)
  rw [show cutC ([x2].map c51) = [cut1 (c51 x2)] from rfl] at hcut sc
  generalize cutC (x0.map c51) = a at *
  generalize cutC (x1.map c51) = b at *
  generalize cut1 (c51 x2) = d at *
  refine ev_pos (by rw [List.length_map]; simp only [List.length_nil]; omega) (ev_bind_now rfl (ev_bind hcut (ev_pos (by simp only [List.nil_append, List.length_map, List.length_cons, List.length_nil]; omega) (ev_bind_now rfl ?_))))
  rw [List.nil_append, ← List.map_append]
  have sd : Sm (a ++ [d]) := ⟨by rw [snoc_len]; omega, fun c hc => by
    rcases List.mem_append.mp hc with h | h
    · exact sa.each c h
    · exact sc.each c h⟩
  have hp := kput_ev a sa
  have hq := kput_ev (a ++ [d]) sd
  have ho := kput_ev b sb
  have gd := kright_ev (a ++ [d]) (fun c hc => (sd.each c hc).1) sd.len
  have gb := kright_ev b (fun c hc => (sb.each c hc).1) sb.len
  have done0 : ¬ ((∀ c ∈ a ++ [d], Right c) ∧ ∀ c ∈ b, Right c) → ∀ (p q r : ByteArray), Ev (fun k => withylaw04_KeyMore.j0 k (a.map s51) (b.map s51) ((a ++ [d]).map s51) p q r true) true := by
    intro hno p q r
    refine ev_step ?_
    simp only [withylaw04_KeyMore.j0]
    refine ev_pos trivial (ev_bind gd ?_)
    by_cases ra : ∀ c ∈ a ++ [d], Right c
    · exact ev_pos (decide_eq_true ra) (ev_bind gb (ev_neg (by rw [decide_eq_false (fun rb => hno ⟨ra, rb⟩)]; decide) kfin_ev))
    · exact ev_neg (by rw [decide_eq_false ra]; decide) kfin_ev
  by_cases ra : ∀ c ∈ a, Right c
  rotate_left
  · rw [show kputV a = (⟨#[]⟩, 3) from if_neg ra] at hp
    exact ev_bind hp (ev_bind hq (ev_bind ho (ev_neg (by decide) (done0 (fun h => ra fun c hc => h.1 c (List.mem_append.mpr (.inl hc))) _ _ _))))
  rw [show kputV a = (B (kput a), 0) from if_pos ra] at hp
  by_cases rd : ∀ c ∈ a ++ [d], Right c
  rotate_left
  · rw [show kputV (a ++ [d]) = (⟨#[]⟩, 3) from if_neg rd] at hq
    exact ev_bind hp (ev_bind hq (ev_bind ho (ev_pos rfl (ev_neg (by decide) (done0 (fun h => rd h.1) _ _ _)))))
  rw [show kputV (a ++ [d]) = (B (kput (a ++ [d])), 0) from if_pos rd] at hq
  by_cases rb : ∀ c ∈ b, Right c
  rotate_left
  · rw [show kputV b = (⟨#[]⟩, 3) from if_neg rb] at ho
    exact ev_bind hp (ev_bind hq (ev_bind ho (ev_pos rfl (ev_pos rfl (done0 (fun h => rb h.2) _ _ _)))))
  rw [show kputV b = (B (kput b), 0) from if_pos rb] at ho
  refine ev_bind hp (ev_bind hq (ev_bind ho (ev_pos rfl (ev_pos rfl (ev_step ?_)))))
  simp only [withylaw04_KeyMore.j0, len_map51]
  have wa := sa.rb ra
  have wb := sb.rb rb
  have wd := sd.rb rd
  have hkm : kcmp a (a ++ [d]) = -1 := kcmp_pre a d []
  have hord := (ord_of wa wd).less
  rw [hkm] at hord
  have hless : Op.bytesLess (kput a) (kput (a ++ [d])) = true := by
    have : (true == Op.bytesLess (kput a) (kput (a ++ [d]))) = true := hord
    simpa using this
  have hcmp := kcompare_ev a (a ++ [d]) sa.len
  rw [hkm] at hcmp
  have tl : ∀ l : List UInt8, (B l).toList = l := fun l => by rw [L_toList, B_L]
  have hout : b.take a.length ≠ a → (Op.bytesLess (kput a) (kput b) == Op.bytesLess (kput (a ++ [d])) (kput b)) = true := by
    intro hno
    have o1 := (ord_of wa wb).less
    have o2 := (ord_of wd wb).less
    rw [kcmp_more a b [d] hno] at o2
    rw [beq_iff_eq] at o1 o2 ⊢
    rw [← o1, ← o2]
  refine ev_neg (by decide) ?_
  simp only [tl]
  by_cases hb : (b.length : Int) ≥ (a.length : Int)
  · have hmn : mn (a.length : Int) (b.length : Int) = (a.length : Int) := by rw [mn_eq]; omega
    rw [hmn, Int.toNat_natCast]
    have lt2 : (b.take a.length).length ≤ 1000 := by rw [List.length_take]; omega
    have hrefb : Ev (fun k => withylaw04_Ref.f k ((b.map s51).take a.length)) ((b.take a.length).map s56) := by
      rw [← List.map_take]; exact kref_ev _ lt2
    refine ev_pos hb (ev_pos (by omega) (ev_pos (by omega) (ev_bind hrefb (ev_bind (kref_ev a sa.len) (ev_bind (ksame_ev _ _ lt2) (ev_pos hless (ev_bind hcmp (ev_pos rfl ?_))))))))
    by_cases q : b.take a.length = a
    · exact ev_pos (decide_eq_true q) kfin_ev
    · exact ev_neg (by rw [decide_eq_false q]; decide) (ev_pos (hout q) kfin_ev)
  · refine ev_neg hb (ev_pos hless (ev_bind hcmp (ev_pos rfl (ev_pos (hout fun q => ?_) kfin_ev))))
    have := congrArg List.length q
    rw [List.length_take] at this
    omega
end Go.Proofs.YthaicofleloplaaDoor.Pure
