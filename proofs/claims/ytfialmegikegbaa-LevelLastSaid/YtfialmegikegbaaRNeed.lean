/- What is proved here: how many bytes cells need, as the printed functions tell it. Conditions: sizes within the form's reach. -/
import Derived.Test.YtfialmegikegbaaPS
import Derived.Test.YtfialmegikegbaaEv
import Derived.Test.YtfialmegikegbaaSlot
import Derived.Test.YtfialmegikegbaaNeed
set_option linter.unusedVariables false
set_option linter.unusedSimpArgs false
namespace Go.Proofs.Ytfialmegikegbaa.Spec
open Go.RowKit Go.Proofs.YtfialmegikegbaaW.PrintWords Go.Proofs.YtfialmegikegbaaW.PrintLast Go.Proofs.YtfialmegikegbaaW.PrintMore Go.Proofs.YtfialmegikegbaaEv Go.Proofs.YtfialmegikegbaaSlot Go.Proofs.Ytfialmegikegbaa.P
theorem rsize_loop (cs : List ByteArray) (B : Nat) (hB : B ≤ 140737488300000) (hl : cs.length ≤ B) : ∀ (d i acc : Nat), i ≤ cs.length → cs.length - i = d → acc + (cat (cs.drop i)).length + 2 * d = B → Ev (fun k => withyref08_Size.l0 k cs (acc : Int) (i : Int)) (B : Int) := by
  intro d
  induction d with
  | zero =>
    intro i acc h1 hd hs
    refine ev_step ?_
    simp only [withyref08_Size.l0]
    rw [List.drop_of_length_le (by omega), cat_nil] at hs
    exact ev_neg (by omega) (ev_some' (by simp at hs; omega))
  | succ d ih =>
    intro i acc h1 hd hs
    have hi : i < cs.length := by omega
    rw [List.drop_eq_getElem_cons hi, cat_cons, List.length_append, L_length] at hs
    refine ev_step ?_
    simp only [withyref08_Size.l0]
    rw [rdOf_nat _ cs i hi]
    refine ev_pos (by omega) (ev_pos (by omega) ?_)
    rw [w64_succ (by omega), w64 (x := (acc : Int) + _) (by omega) (by omega), w64 (by omega) (by omega)]
    rw [show (acc : Int) + (cs[i].size : Int) + 2 = ((acc + cs[i].size + 2 : Nat) : Int) by omega]
    exact ih (i + 1) (acc + cs[i].size + 2) (by omega) (by omega) (by omega)
theorem rsize_ev (f : ByteArray) (cs : List ByteArray) (h : need f cs ≤ 140737488300000) : Ev (fun k => withyref08_Size.f k f cs) (need f cs : Int) := by
  have hn : need f cs = f.size + (cat cs).length + 2 * (cs.length + 1) := rfl
  unfold withyref08_Size.f
  rw [w64 (by omega) (by omega), show (f.size : Int) + 2 = ((f.size + 2 : Nat) : Int) by omega]
  exact rsize_loop cs _ h (by omega) _ 0 _ (Nat.zero_le _) rfl (by rw [List.drop_zero]; omega)

end Go.Proofs.Ytfialmegikegbaa.Spec
