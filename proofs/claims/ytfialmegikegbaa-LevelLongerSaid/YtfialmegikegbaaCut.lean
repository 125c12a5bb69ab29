/- What is proved here: what the printed functions of sep and of its reference answer, in plain words on lists of bytes. Conditions: sizes within the form's reach. -/
import Derived.Test.YtfialmegikegbaaStmtLevelLonger
import Derived.Test.YtfialmegikegbaaSep
import Derived.Test.YtfialmegikegbaaEv
import Derived.Test.YtfialmegikegbaaMath
set_option linter.unusedVariables false
set_option linter.unusedSimpArgs false
namespace Go.Proofs.Ytfialmegikegbaa.Spec
open Go.RowKit Go.Proofs.YtfialmegikegbaaW.PrintWords Go.Proofs.YtfialmegikegbaaW.PrintLast Go.Proofs.YtfialmegikegbaaW.PrintMore Go.Proofs.YtfialmegikegbaaEv Go.Proofs.YtfialmegikegbaaMath Go.Proofs.Ytfialmegikegbaa.P
def cut60 (s : ByteArray) : ByteArray := s.extract 0 (min s.size 60)
def cutAll (l : List ByteArray) : List ByteArray := (l.take 30).map cut60
theorem cut60_size (s : ByteArray) : (cut60 s).size = min s.size 60 := by unfold cut60; rw [size_extract]; omega
theorem cutAll_size {l : List ByteArray} {s : ByteArray} (h : s ∈ cutAll l) : s.size ≤ 60 := by
  obtain ⟨t, _, rfl⟩ := List.mem_map.1 h
  rw [cut60_size]
  omega
theorem cutAll_length (l : List ByteArray) : (cutAll l).length ≤ 30 := by unfold cutAll; simp; omega
theorem mn60 (s : ByteArray) : (mn (s.size : Int) 60).toNat = min s.size 60 := by rw [mn_eq]; omega
theorem cut30_loop (l : List ByteArray) : ∀ (d i : Nat) (acc : List ByteArray), i ≤ 30 → i ≤ l.length → acc.length = i → min l.length 30 - i = d →
    Ev (fun k => withylaw05_Cut.l0 k l acc (i : Int)) (acc ++ ((l.take 30).drop i).map cut60) := by
  intro d
  induction d with
  | zero =>
    intro i acc h1 h2 ha hd
    refine ev_step ?_
    simp only [withylaw05_Cut.l0]
    rw [List.drop_of_length_le (by simp <;> omega), List.map_nil, List.append_nil]
    by_cases h : i < l.length
    · exact ev_pos (by omega) (ev_neg (by omega) ev_some)
    · exact ev_neg (by omega) ev_some
  | succ d ih =>
    intro i acc h1 h2 ha hd
    have hi : i < l.length := by omega
    have hi' : i < (l.take 30).length := by simp; omega
    refine ev_step ?_
    simp only [withylaw05_Cut.l0]
    rw [rdOf_nat _ l i hi, mn60]
    have hm := mn_eq (l[i].size : Int) 60
    refine ev_pos (by omega) (ev_pos (by omega) (ev_pos (by omega) (ev_pos (by omega) (ev_pos (by omega) (ev_pos (by omega) ?_)))))
    rw [w64_succ (by omega)]
    refine ev_eq (ih (i + 1) _ (by omega) (by omega) (by simp <;> omega) (by omega)) ?_
    rw [List.drop_eq_getElem_cons hi', List.map_cons, List.append_assoc, List.getElem_take]
    rfl
theorem cut_ev (l : List ByteArray) : Ev (fun k => withylaw05_Cut.f k l) (cutAll l) := by
  unfold withylaw05_Cut.f
  refine ev_eq (cut30_loop l _ 0 [] (Nat.zero_le _) (Nat.zero_le _) rfl rfl) ?_
  rw [List.drop_zero, List.nil_append]
  rfl
end Go.Proofs.Ytfialmegikegbaa.Spec
