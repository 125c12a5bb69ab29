/- What is proved here: the pure statement of SlotBack: cells are unpacked as they were packed, in any room that has them; in one less they are too much. Conditions: sizes within the form's reach. -/
import Derived.Test.YtkhbmgnjopkeaaaStmtSlotBack
import Derived.Test.YtkhbmgnjopkeaaaSpec2
set_option linter.unusedVariables false
set_option linter.unusedSimpArgs false
namespace Go.Proofs.Ytkhbmgnjopkeaaa.Pure
open Go.RowKit Go.Proofs.YtkhbmgnjopkeaaaW.PrintWords Go.Proofs.YtkhbmgnjopkeaaaW.PrintLast Go.Proofs.YtkhbmgnjopkeaaaW.PrintMore Go.Proofs.YtkhbmgnjopkeaaaEv Go.Proofs.YtkhbmgnjopkeaaaSlot Go.Proofs.Ytkhbmgnjopkeaaa.P Go.Proofs.Ytkhbmgnjopkeaaa.Spec

theorem SlotBack : withylaw08_SlotBack.Pure := by
  intro x0 ⟨f, l⟩ hx _
  obtain ⟨hx0, hx1⟩ := wf_u16 hx
  have mf := mn_eq (f.size : Int) 60
  have hf := fix60_size f
  have hn := need_cut _ l (show (f.extract 0 (min f.size 60)).size ≤ 61 by omega)
  have hl := cutAll_length l
  have hs := fun c hc => cutAll_size (l := l) (s := c) hc
  refine Ev.rounds ?_
  show Ev (fun k => withylaw08_SlotBack.f k x0 f l) true
  unfold withylaw08_SlotBack.f
  rw [mn60]
  refine ev_pos (by omega) (ev_pos (by omega) (ev_bind (cut_ev l) ?_))
  generalize cutAll l = cs at hn hl hs ⊢
  generalize f.extract 0 (min f.size 60) = g at hf hn ⊢
  have hne : need g cs = g.size + (cat cs).length + 2 * (cs.length + 1) := rfl
  refine ev_bind_now (size_eq _ _ (by omega)) (ev_neg (by omega) ?_)
  refine ev_step ?_
  simp only [withylaw08_SlotBack.j0]
  obtain ⟨a, rfl⟩ := Int.eq_ofNat_of_zero_le hx0
  have ht : Int.tmod (a : Int) 300 = ((a % 300 : Nat) : Int) := rfl
  rw [w64 (x := (a : Int)) (by omega) (by omega), ht, w64 (by omega) (by omega), w64 (by omega) (by omega)]
  rw [show (need g cs : Int) + ((a % 300 : Nat) : Int) = ((need g cs + a % 300 : Nat) : Int) by omega, show (need g cs : Int) - 1 = ((need g cs - 1 : Nat) : Int) by omega]
  refine ev_neg (by simp; omega) (ev_bind (pack_ev _ _ _ (by omega)) (ev_bind (pack_ev _ _ _ (by omega)) ?_))
  rw [packed_ok (by omega) (by omega), packed_much (by omega) (by omega)]
  refine ev_bind (unpack_ev _ _ _) ?_
  have hbs := body_size (room := need g cs + a % 300) (f := g) (cs := cs) (by omega)
  dsimp only
  rw [unpacked_body (by omega) (by omega)]
  dsimp only
  refine ev_pos rfl (ev_pos (by omega) (ev_pos (by omega) (ev_pos (by omega) (ev_pos (by rw [body_fixed]) (ev_pos rfl (ev_pos rfl (ev_bind (words_ev _ _ (by omega)) (ev_pos (decide_eq_true rfl) (ev_bind fixed_ev ev_some)))))))))
end Go.Proofs.Ytkhbmgnjopkeaaa.Pure
