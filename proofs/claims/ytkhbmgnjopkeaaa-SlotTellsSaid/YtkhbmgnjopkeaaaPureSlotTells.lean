/- What is proved here: the pure statement of SlotTells: what the program's functions of slot answer is what the reference's answer. Conditions: sizes within the form's reach. -/
import Derived.Test.YtkhbmgnjopkeaaaStmtSlotTells
import Derived.Test.YtkhbmgnjopkeaaaSpec2
set_option linter.unusedVariables false
set_option linter.unusedSimpArgs false
namespace Go.Proofs.Ytkhbmgnjopkeaaa.Pure
open Go.RowKit Go.Proofs.YtkhbmgnjopkeaaaW.PrintWords Go.Proofs.YtkhbmgnjopkeaaaW.PrintLast Go.Proofs.YtkhbmgnjopkeaaaW.PrintMore Go.Proofs.YtkhbmgnjopkeaaaEv Go.Proofs.YtkhbmgnjopkeaaaSlot Go.Proofs.Ytkhbmgnjopkeaaa.P Go.Proofs.Ytkhbmgnjopkeaaa.Spec

theorem unpacked_length (b : ByteArray) (hb : b.size ≤ 65535) (f m : Int) : (unpacked b f m).1.length ≤ 65535 := by
  unfold unpacked
  split
  · simp
  · split
    · simp
    · split
      · simp
      · rename_i h
        have := cuts_length _ _ _ _ _ h
        split
        · simp only [List.length_nil] at this
          rw [this]
          omega
        · simp
theorem SlotTells : withylaw08_SlotTells.Pure := by
  intro x0 ⟨f, l⟩ ⟨b, p, q⟩ _ _ _
  have mf := mn_eq (f.size : Int) 60
  have mb := mn_eq (b.size : Int) 300
  have hf := fix60_size f
  have hn := need_cut _ l (show (f.extract 0 (min f.size 60)).size ≤ 61 by omega)
  have hb : (b.extract 0 (min b.size 300)).size ≤ 300 := by rw [size_extract]; omega
  have m300 : (mn (b.size : Int) 300).toNat = min b.size 300 := by omega
  refine Ev.rounds ?_
  show Ev (fun k => withylaw08_SlotTells.f k x0 f l b p q) true
  unfold withylaw08_SlotTells.f
  rw [mn60, m300]
  refine ev_pos (by omega) (ev_pos (by omega) (ev_bind (cut_ev l) (ev_pos (by omega) (ev_pos (by omega) ?_))))
  refine ev_bind (pack_ev _ _ _ (by omega)) (ev_bind (rpack_ev _ _ _ (by omega)) (ev_bind (unpack_ev _ _ _) (ev_bind (runpack_ev _ (by omega) _ _) ?_)))
  refine ev_bind_now (size_eq _ _ (by omega)) (ev_bind (rsize_ev _ _ (by omega)) ?_)
  refine ev_pos rfl (ev_pos rfl (ev_pos rfl ?_))
  refine ev_bind (words_ev _ _ (by have := unpacked_length (b.extract 0 (min b.size 300)) (by omega) p q; omega)) (ev_pos (decide_eq_true rfl) (ev_pos rfl (ev_bind fixed_ev ev_some)))
end Go.Proofs.Ytkhbmgnjopkeaaa.Pure
