/- What is proved here: the pure statement of KeyTells: everything of keys is as the document says. Conditions: none. -/
import Derived.Test.YthaicofleloplaaDoorStmtKeyTells
import Derived.Test.YthaicofleloplaaDoorKAll
import Derived.Test.YthaicofleloplaaDoorRAll
set_option linter.unusedVariables false
set_option linter.unusedSimpArgs false
namespace Go.Proofs.YthaicofleloplaaDoor.Pure
open Go.RowKit Go.Proofs.YthaicofleloplaaDoor.P Go.Proofs.YthaicofleloplaaDoorW.PrintWords Go.Proofs.YthaicofleloplaaDoorW.PrintLast Go.Proofs.YthaicofleloplaaDoorW.PrintMore Go.Proofs.YthaicofleloplaaDoorEv Go.Proofs.YthaicofleloplaaDoorCol Go.Proofs.YthaicofleloplaaDoorR Go.Proofs.YthaicofleloplaaDoor.Spec

theorem bd_of {l : List S51} (h : ∀ a ∈ l, fit51 a) : ∀ c ∈ l.map c51, Bd c := by
  intro c hc
  obtain ⟨x, hx, rfl⟩ := List.mem_map.mp hc
  have hf := h x hx
  have i := wf_i64 hf.2.1
  have u := wf_u64 hf.2.2.1
  exact ⟨i.1, i.2, u.1, u.2⟩
theorem getW_len (s : ByteArray) (hs : s.size ≤ 1000) : (getW (L s)).1.length ≤ 1000 := by
  unfold getW
  rcases kp_res (L s) with ⟨cs, e, hr, el⟩ | e | e
  · rw [e]
    have h1 : (kput cs).length ≤ 1000 := by rw [← el, L_length]; exact hs
    exact (sm_of hr h1).len
  · rw [e]; exact Nat.zero_le _
  · rw [e]; exact Nat.zero_le _
theorem KeyTells : withylaw04_KeyTells.Pure := by
  intro x0 x1 x2 h0 h1 h2
  suffices h : Ev (fun k => withylaw04_KeyTells.f k x0 x1 x2.f0 x2.f1) true by
    obtain ⟨K, hK⟩ := h; exact ⟨K, hK K (Nat.le_refl _)⟩
  unfold withylaw04_KeyTells.f
  refine ev_bind (kcut_ev x0 h0.2.1) (ev_bind (kcut_ev x1 h1.2.1) ?_)
  have sa := cutC_sm (bd_of h0.2.2)
  have sb := cutC_sm (bd_of h1.2.2)
  generalize cutC (x0.map c51) = a at *
  generalize cutC (x1.map c51) = b at *
  have m0 : 0 ≤ mn (x2.f0.size : Int) 200 ∧ mn (x2.f0.size : Int) 200 ≤ (x2.f0.size : Int) := mn_bounds x2.f0 200
  have e0 : x2.f0.extract 0 ((mn (x2.f0.size : Int) 200) : Int).toNat = cutS x2.f0 200 := extract_cut x2.f0 200
  refine ev_pos m0.1 (ev_pos m0.2 ?_)
  rw [e0]
  have hz := cutS_size x2.f0 200
  generalize cutS x2.f0 200 = z at *
  refine ev_bind (kput_ev a sa) (ev_bind (kref_ev a sa.len) (ev_bind (rkput_ev a sa) (ev_bind (kget_ev z (by omega)) (ev_bind (rkget_ev z (by omega)) (ev_bind (kpart_ev z x2.f1 (by omega)) (ev_bind (rkpart_ev z x2.f1 (by omega)) ?_))))))
  refine ev_bind (kright_ev a (fun c hc => (sa.each c hc).1) sa.len) ?_
  have hgl := getW_len z (by omega)
  have hsame := ksame_ev (getW (L z)).1 (getW (L z)).1 hgl
  rw [decide_eq_true rfl] at hsame
  have last : Ev (fun k => withylaw04_KeyTells.j0 k (kputV a).1 (kputV a).2 (kputV a).1 (kputV a).2 ((getW (L z)).1.map s51) (getW (L z)).2 ((getW (L z)).1.map s56) (getW (L z)).2 (partV (L z) x2.f1).1 (partV (L z) x2.f1).2 (partV (L z) x2.f1).1 (partV (L z) x2.f1).2 false) true := by
    refine ev_step ?_
    simp only [withylaw04_KeyTells.j0]
    exact ev_neg (by decide) (ev_pos trivial (ev_pos trivial (ev_bind (kref_ev _ hgl) (ev_bind hsame (ev_pos rfl (ev_pos trivial (ev_pos trivial (ev_pos trivial kfin_ev))))))))
  by_cases ra : ∀ c ∈ a, Right c
  rotate_left
  · exact ev_neg (by rw [decide_eq_false ra]; decide) last
  refine ev_pos (decide_eq_true ra) (ev_bind (kright_ev b (fun c hc => (sb.each c hc).1) sb.len) ?_)
  by_cases rb : ∀ c ∈ b, Right c
  rotate_left
  · exact ev_neg (by rw [decide_eq_false rb]; decide) last
  refine ev_pos (decide_eq_true rb) (ev_bind (kcompare_ev a b sa.len) (ev_bind (kref_ev a sa.len) (ev_bind (kref_ev b sb.len) (ev_bind (rkcompare_ev a b (sa.rb ra) (sb.rb rb) sa.len) ?_))))
  rw [show (kcmp a b != kcmp a b) = false by simp]
  exact last
end Go.Proofs.YthaicofleloplaaDoor.Pure
