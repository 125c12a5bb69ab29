/- What is proved here: the pure statement of SlotOnce: a body that is unpacked is just what is packed of its cells. Conditions: sizes within the form's reach. -/
import Derived.Test.YtkhbmgnjopkeaaaStmtSlotOnce
import Derived.Test.YtkhbmgnjopkeaaaSpec2
set_option linter.unusedVariables false
set_option linter.unusedSimpArgs false
namespace Go.Proofs.Ytkhbmgnjopkeaaa.Pure
open Go.RowKit Go.Proofs.YtkhbmgnjopkeaaaW.PrintWords Go.Proofs.YtkhbmgnjopkeaaaW.PrintLast Go.Proofs.YtkhbmgnjopkeaaaW.PrintMore Go.Proofs.YtkhbmgnjopkeaaaEv Go.Proofs.YtkhbmgnjopkeaaaSlot Go.Proofs.Ytkhbmgnjopkeaaa.P Go.Proofs.Ytkhbmgnjopkeaaa.Spec

theorem unpacked_ways (b : ByteArray) (hb : b.size ≤ 65535) (f m : Int) : ((f < 0 ∨ m < 0) ∧ unpacked b f m = ([], 4)) ∨ (¬ (f < 0 ∨ m < 0) ∧ unpacked b f m = ([], 3)) ∨
    (0 ≤ f ∧ 0 ≤ m ∧ f ≤ (b.size : Int) ∧ ∃ cs, unpacked b f m = (cs, 0) ∧ (cs.length : Int) = m ∧ packed (b.size : Int) (b.extract 0 f.toNat) cs = (b, 0) ∧ need (b.extract 0 f.toNat) cs ≤ 140737488300000) := by
  unfold unpacked
  by_cases h0 : f < 0 ∨ m < 0
  · rw [if_pos (by omega)]
    exact .inl ⟨h0, rfl⟩
  · rw [if_neg (by omega)]
    by_cases h1 : f > (b.size : Int) ∨ m > (b.size : Int) / 2 - 1
    · rw [if_pos h1]
      exact .inr (.inl ⟨h0, rfl⟩)
    · rw [if_neg h1]
      cases h : cuts b m.toNat 0 [] with
      | none => exact .inr (.inl ⟨h0, rfl⟩)
      | some cs =>
        show _ ∨ _ ∨ _
        have hl := cuts_length _ _ _ _ _ h
        have hs := cuts_size b _ _ _ _ (fun c hc => by cases hc) h
        simp only [List.length_nil] at hl
        by_cases hp : packed (b.size : Int) (b.extract 0 f.toNat) cs = (b, 0)
        · refine .inr (.inr ⟨by omega, by omega, by omega, cs, ?_, by omega, hp, need_small b hb _ (by rw [size_extract]; omega) cs (by omega) hs⟩)
          simp only [hp, if_true]
        · refine .inr (.inl ⟨h0, ?_⟩)
          simp only [hp, if_false]
theorem SlotOnce : withylaw08_SlotOnce.Pure := by
  intro ⟨b, p, q⟩ _
  have mb := mn_eq (b.size : Int) 300
  have hb : (b.extract 0 (min b.size 300)).size ≤ 300 := by rw [size_extract]; omega
  have m300 : (mn (b.size : Int) 300).toNat = min b.size 300 := by omega
  refine Ev.rounds ?_
  show Ev (fun k => withylaw08_SlotOnce.f k b p q) true
  unfold withylaw08_SlotOnce.f
  rw [m300]
  refine ev_pos (by omega) (ev_pos (by omega) ?_)
  generalize b.extract 0 (min b.size 300) = c at hb ⊢
  have mc := mn_eq p (c.size : Int)
  refine ev_bind (unpack_ev _ _ _) ?_
  rcases unpacked_ways c (by omega) p q with ⟨h0, e⟩ | ⟨h0, e⟩ | ⟨h1, h2, h3, cs, e, hl, hp, hn⟩
  · rw [e]
    refine ev_neg (by decide) (ev_pos rfl ?_)
    by_cases hp : p < 0
    · exact ev_pos hp (ev_pos rfl (ev_bind fixed_ev ev_some))
    · exact ev_neg hp (ev_pos (by simp; omega) (ev_bind fixed_ev ev_some))
  · rw [e]
    refine ev_neg (by decide) (ev_pos rfl (ev_neg (by omega) (ev_pos (by simp; omega) (ev_bind fixed_ev ev_some))))
  · rw [e]
    refine ev_pos rfl (ev_pos (by omega) (ev_pos (by omega) ?_))
    rw [show mn p (c.size : Int) = p by omega]
    refine ev_bind (pack_ev _ _ _ hn) (ev_pos hl ?_)
    rw [hp]
    exact ev_pos rfl (ev_pos rfl (ev_bind fixed_ev ev_some))
end Go.Proofs.Ytkhbmgnjopkeaaa.Pure
