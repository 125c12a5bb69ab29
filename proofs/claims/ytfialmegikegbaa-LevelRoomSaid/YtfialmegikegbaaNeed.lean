/- What is proved here: how many bytes cells need, as the printed functions tell it. Conditions: sizes within the form's reach. -/
import Derived.Test.YtfialmegikegbaaPF
import Derived.Test.YtfialmegikegbaaEv
import Derived.Test.YtfialmegikegbaaSlot
set_option linter.unusedVariables false
set_option linter.unusedSimpArgs false
namespace Go.Proofs.Ytfialmegikegbaa.Spec
open Go.RowKit Go.Proofs.YtfialmegikegbaaW.PrintWords Go.Proofs.YtfialmegikegbaaW.PrintLast Go.Proofs.YtfialmegikegbaaW.PrintMore Go.Proofs.YtfialmegikegbaaEv Go.Proofs.YtfialmegikegbaaSlot Go.Proofs.Ytfialmegikegbaa.P
theorem join_flat (xs : List (List UInt8)) : Lib.join xs [] = xs.flatten := by
  cases xs with
  | nil => rfl
  | cons x r =>
    rw [Lib.join_cons]
    simp [Lib.joinTail]
theorem size_eq (f : ByteArray) (cs : List ByteArray) (h : need f cs ≤ 140737488300000) : slot_Size.f f cs = some (need f cs : Int) := by
  have hn : need f cs = f.size + (cat cs).length + 2 * (cs.length + 1) := rfl
  have e : Lib.join (cs.map (fun x => x.data.toList)) (⟨#[]⟩ : ByteArray).data.toList = cat cs := join_flat _
  unfold slot_Size.f strings_Join.f
  have e2 : (⟨(cat cs).toArray⟩ : ByteArray).size = (cat cs).length := size_mk _
  rw [e, if_pos (by omega), if_pos (by omega), Option.bind_some, e2]
  refine congrArg some ?_
  rw [w64 (x := (cs.length : Int) + 1) (by omega) (by omega), w64 (x := 2 * _) (by omega) (by omega), w64 (x := (f.size : Int) + _) (by omega) (by omega), w64 (by omega) (by omega)]
  omega
end Go.Proofs.Ytfialmegikegbaa.Spec
