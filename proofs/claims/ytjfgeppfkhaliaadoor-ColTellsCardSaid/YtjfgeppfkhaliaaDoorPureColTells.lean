/- What is proved here: the pure statement of ColTells: everything of columns is as the document says. Conditions: none. -/
import Derived.Test.YtjfgeppfkhaliaaDoorStmtColTells
import Derived.Test.YtjfgeppfkhaliaaDoorRCol
set_option linter.unusedVariables false
set_option linter.unusedSimpArgs false
namespace Go.Proofs.YtjfgeppfkhaliaaDoor.Pure
open Go.RowKit Go.Proofs.YtjfgeppfkhaliaaDoor.P Go.Proofs.YtjfgeppfkhaliaaDoorW.PrintWords Go.Proofs.YtjfgeppfkhaliaaDoorW.PrintLast Go.Proofs.YtjfgeppfkhaliaaDoorW.PrintMore Go.Proofs.YtjfgeppfkhaliaaDoorEv Go.Proofs.YtjfgeppfkhaliaaDoorCol Go.Proofs.YtjfgeppfkhaliaaDoorR Go.Proofs.YtjfgeppfkhaliaaDoor.Spec

theorem fin_ev : Ev (fun k => (withylaw03_fixed.f k).bind fun t => some t) true := ev_bind fixed_ev ev_some
theorem ColTells : withylaw03_ColTells.Pure := by
  intro x0 x1 x2 h0 h1 h2
  suffices h : Ev (fun k => withylaw03_ColTells.f k x0.f0 x0.f1 x0.f2 x0.f3 x1.f0 x1.f1 x1.f2 x1.f3 x2.f0 x2.f1) true by
    obtain ⟨K, hK⟩ := h; exact ⟨K, hK K (Nat.le_refl _)⟩
  obtain ⟨_, ⟨a1, a2⟩, ⟨a3, a4⟩, _⟩ := (⟨h0.1, wf_i64 h0.2.1, wf_u64 h0.2.2.1, h0.2.2.2⟩ : _ ∧ _ ∧ _ ∧ _)
  obtain ⟨_, ⟨b1, b2⟩, ⟨b3, b4⟩, _⟩ := (⟨h1.1, wf_i64 h1.2.1, wf_u64 h1.2.2.1, h1.2.2.2⟩ : _ ∧ _ ∧ _ ∧ _)
  unfold withylaw03_ColTells.f
  refine ev_bind_now (cut_eq _ _ _ _) (ev_bind_now (cut_eq _ _ _ _) ?_)
  have hs := cutS_size x0.f3 60
  have ht := cutS_size x1.f3 60
  generalize cutS x0.f3 60 = s at *
  generalize cutS x1.f3 60 = t at *
  have ba : Bd ⟨x0.f0, x0.f1, x0.f2, L s⟩ := ⟨a1, a2, a3, a4⟩
  have m0 : 0 ≤ mn (x2.f0.size : Int) 100 ∧ mn (x2.f0.size : Int) 100 ≤ (x2.f0.size : Int) := mn_bounds x2.f0 100
  have e0 : x2.f0.extract 0 ((mn (x2.f0.size : Int) 100) : Int).toNat = cutS x2.f0 100 := extract_cut x2.f0 100
  refine ev_pos m0.1 (ev_pos m0.2 ?_)
  rw [e0]
  have hz := cutS_size x2.f0 100
  generalize cutS x2.f0 100 = z at *
  refine ev_bind (cput_ev _ _ _ s ba (by omega)) (ev_bind_now (ref_eq _ _ _ _) (ev_bind (rput_ev _ _ _ s ba (by omega)) (ev_bind (get_ev z _ (by omega)) (ev_bind (rget_ev z _ (by omega)) ?_))))
  refine ev_bind (right_ev _ _ _ s a3) (ev_bind_now (ref_eq _ _ _ _) (ev_bind_now (rright_eq _ _ _ s) (ev_neg (by simp) (ev_bind_now (ref_eq _ _ _ _) (ev_bind_now (rright_eq _ _ _ s) ?_)))))
  have last : Ev (fun k => withylaw03_ColTells.j0 k (putV x0.f0 x0.f1 x0.f2 s).1 (putV x0.f0 x0.f1 x0.f2 s).2 (putV x0.f0 x0.f1 x0.f2 s).1 (putV x0.f0 x0.f1 x0.f2 s).2 (getV z x2.f1).2.2.2.2.1 (getV z x2.f1).2.2.2.2.2 (getV z x2.f1).2.2.2.2.1 (getV z x2.f1).2.2.2.2.2 false (getV z x2.f1).1 (getV z x2.f1).2.1 (getV z x2.f1).2.2.1 (getV z x2.f1).2.2.2.1 (getV z x2.f1).1 (getV z x2.f1).2.1 (getV z x2.f1).2.2.1 (getV z x2.f1).2.2.2.1) true := by
    refine ev_step ?_
    simp only [withylaw03_ColTells.j0]
    exact ev_neg (by decide) (ev_pos trivial (ev_pos trivial (ev_bind_now (ref_eq _ _ _ _) (ev_pos (by simp) (ev_pos trivial (ev_pos trivial fin_ev))))))
  by_cases ra : Right ⟨x0.f0, x0.f1, x0.f2, L s⟩
  rotate_left
  · exact ev_neg (by simp [ra]) last
  refine ev_pos (by simp [ra]) (ev_bind_now (ref_eq _ _ _ _) (ev_bind_now (rright_eq _ _ _ t) ?_))
  by_cases rb : Right ⟨x1.f0, x1.f1, x1.f2, L t⟩
  rotate_left
  · exact ev_neg (by simp [rb]) last
  refine ev_pos (by simp [rb]) (ev_bind (compare_ev _ _ _ _ _ _ _ _) (ev_bind_now (ref_eq _ _ _ _) (ev_bind_now (ref_eq _ _ _ _) (ev_bind_now (rcompare_eq _ _ _ _ _ _ _ _ ra rb) ?_))))
  have e : (ccmp ⟨x0.f0, x0.f1, x0.f2, L s⟩ ⟨x1.f0, x1.f1, x1.f2, L t⟩ != ccmp ⟨x0.f0, x0.f1, x0.f2, L s⟩ ⟨x1.f0, x1.f1, x1.f2, L t⟩) = false := by simp
  rw [e]
  exact last
end Go.Proofs.YtjfgeppfkhaliaaDoor.Pure
