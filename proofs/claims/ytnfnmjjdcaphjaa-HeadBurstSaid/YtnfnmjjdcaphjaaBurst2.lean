/- What is proved here: a page of which at most four bytes, one behind the other, ahead of the sum, of the sum, or behind it, are other ones is none. Conditions: as each theorem names them. -/
import Derived.Test.YtnfnmjjdcaphjaaBurst
import Derived.Test.YtnfnmjjdcaphjaaSpec3
set_option linter.unusedVariables false
set_option linter.unusedSimpArgs false
namespace Go.Proofs.YtnfnmjjdcaphjaaBurst
open Go.RowKit Go.Proofs.YtnfnmjjdcaphjaaW.PrintWords Go.Proofs.YtnfnmjjdcaphjaaW.PrintMore Go.Proofs.YtnfnmjjdcaphjaaEv Go.Proofs.YtnfnmjjdcaphjaaSum Go.Proofs.YtnfnmjjdcaphjaaHead Go.Proofs.Ytnfnmjjdcaphjaa.Spec
theorem isPage_parts {s : ByteArray} (h : isPage s) : ∃ F R : List UInt8, F.length = 12 ∧ L s = F ++ le4 (crc (F ++ [0, 0, 0, 0] ++ R)) ++ R := by
  refine ⟨front (got (L s)), rest (L (body s)) s.size, rfl, ?_⟩
  exact h.2.2.symm
theorem isPage_sum {s : ByteArray} (h : isPage s) : ((L s).drop 12).take 4 = le4 (crc ((L s).take 12 ++ [0, 0, 0, 0] ++ (L s).drop 16)) := by
  obtain ⟨F, R, hF, e⟩ := isPage_parts h
  have h4 : ∀ n, (le4 n).length = 4 := fun n => rfl
  have e1 : (L s).take 12 = F := by
    rw [e, List.append_assoc, List.take_append_of_le_length (by omega), List.take_of_length_le (by omega)]
  have e2 : (L s).drop 16 = R := by
    rw [e, List.drop_append_of_le_length (by rw [List.length_append, hF, h4]; omega), List.drop_of_length_le (by rw [List.length_append, hF, h4]; omega), List.nil_append]
  have e3 : ((L s).drop 12).take 4 = le4 (crc (F ++ [0, 0, 0, 0] ++ R)) := by
    rw [e, List.append_assoc, List.drop_append_of_le_length (by omega), List.drop_of_length_le (by omega), List.nil_append, List.take_append_of_le_length (by rw [h4]; omega), List.take_of_length_le (by rw [h4]; omega)]
  rw [e1, e2, e3]
theorem drop_cat (A B : List UInt8) (n : Nat) (h : A.length ≤ n) : (A ++ B).drop n = B.drop (n - A.length) := by
  rw [List.drop_append, List.drop_of_length_le h, List.nil_append]
theorem take_cat (A B : List UInt8) (n : Nat) (h : A.length ≤ n) : (A ++ B).take n = A ++ B.take (n - A.length) := by
  rw [List.take_append, List.take_of_length_le h]
theorem burst_page {s b : ByteArray} (hs : isPage s) (hb : isPage b) {A x y B : List UInt8} (e1 : L s = A ++ x ++ B) (e2 : L b = A ++ y ++ B) (hl : x.length = y.length) (h4 : x.length ≤ 4) (hr : 16 ≤ A.length ∨ (12 ≤ A.length ∧ A.length + x.length ≤ 16) ∨ A.length + x.length ≤ 12) : L b = L s := by
  have s1 := isPage_sum hs
  have s2 := isPage_sum hb
  suffices hxy : x = y by rw [e1, e2, hxy]
  rw [e1] at s1
  rw [e2] at s2
  rcases hr with hr | hr | hr
  · rw [List.append_assoc, List.take_append_of_le_length (by omega), List.drop_append_of_le_length (by omega), List.drop_append_of_le_length (by omega), List.take_append_of_le_length (by rw [List.length_drop]; omega)] at s1 s2
    have hc := le4_inj (crc_lt _) (crc_lt _) (s1.symm.trans s2)
    refine burst (p := A.take 12 ++ [0, 0, 0, 0] ++ A.drop 16) (q := B) hl h4 ?_
    simpa only [List.append_assoc] using hc
  · have t1 : (A ++ x ++ B).take 12 = A.take 12 := by rw [List.append_assoc, List.take_append_of_le_length (by omega)]
    have t2 : (A ++ y ++ B).take 12 = A.take 12 := by rw [List.append_assoc, List.take_append_of_le_length (by omega)]
    have d1 : (A ++ x ++ B).drop 16 = B.drop (16 - (A.length + x.length)) := by rw [drop_cat _ _ _ (by rw [List.length_append]; omega), List.length_append]
    have d2 : (A ++ y ++ B).drop 16 = B.drop (16 - (A.length + x.length)) := by rw [drop_cat _ _ _ (by rw [List.length_append]; omega), List.length_append, hl]
    rw [t1, d1] at s1
    rw [t2, d2] at s2
    have hc := s1.trans s2.symm
    have c1 : ∀ z : List UInt8, ((A ++ z ++ B).drop 12).take 4 = A.drop 12 ++ (z ++ B).take (4 - (A.drop 12).length) := fun z => by
      rw [List.append_assoc, List.drop_append_of_le_length (by omega), take_cat _ _ _ (by rw [List.length_drop]; omega)]
    rw [c1 x, c1 y] at hc
    have hc2 := List.append_cancel_left hc
    have hm : x.length ≤ 4 - (A.drop 12).length := by rw [List.length_drop]; omega
    have k1 := congrArg (List.take x.length) hc2
    rw [List.take_take, List.take_take, Nat.min_eq_left hm, List.take_append_of_le_length (Nat.le_refl _), List.take_append_of_le_length (by omega), List.take_of_length_le (Nat.le_refl _), List.take_of_length_le (by omega)] at k1
    exact k1
  · have t1 : (A ++ x ++ B).take 12 = A ++ x ++ B.take (12 - (A.length + x.length)) := by rw [take_cat _ _ _ (by rw [List.length_append]; omega), List.length_append]
    have t2 : (A ++ y ++ B).take 12 = A ++ y ++ B.take (12 - (A.length + x.length)) := by rw [take_cat _ _ _ (by rw [List.length_append]; omega), List.length_append, hl]
    have d1 : ∀ n, 12 ≤ n → (A ++ x ++ B).drop n = B.drop (n - (A.length + x.length)) := fun n hn => by rw [drop_cat _ _ _ (by rw [List.length_append]; omega), List.length_append]
    have d2 : ∀ n, 12 ≤ n → (A ++ y ++ B).drop n = B.drop (n - (A.length + x.length)) := fun n hn => by rw [drop_cat _ _ _ (by rw [List.length_append]; omega), List.length_append, hl]
    rw [t1, d1 12 (by omega), d1 16 (by omega)] at s1
    rw [t2, d2 12 (by omega), d2 16 (by omega)] at s2
    have hc := le4_inj (crc_lt _) (crc_lt _) (s1.symm.trans s2)
    refine burst (p := A) (q := B.take (12 - (A.length + x.length)) ++ [0, 0, 0, 0] ++ B.drop (16 - (A.length + x.length))) hl h4 ?_
    simpa only [List.append_assoc] using hc
end Go.Proofs.YtnfnmjjdcaphjaaBurst
