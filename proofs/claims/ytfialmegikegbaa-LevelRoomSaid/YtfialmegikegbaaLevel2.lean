/- What is proved here: what the law's helpers answer, and level.Right, in plain words; the fixed calls. Conditions: sizes within the form's reach. -/
import Derived.Test.YtfialmegikegbaaPF
import Derived.Test.YtfialmegikegbaaLevel
set_option linter.unusedVariables false
set_option linter.unusedSimpArgs false
namespace Go.Proofs.Ytfialmegikegbaa.Spec
open Go.RowKit Go.Proofs.YtfialmegikegbaaW.PrintWords Go.Proofs.YtfialmegikegbaaW.PrintLast Go.Proofs.YtfialmegikegbaaW.PrintMore Go.Proofs.YtfialmegikegbaaEv Go.Proofs.YtfialmegikegbaaMath Go.Proofs.YtfialmegikegbaaSlot Go.Proofs.Ytfialmegikegbaa.P Go.Proofs.YtfialmegikegbaaW.Abbr

/-! ### lists that are the same -/
theorem ints_loop (a b : List Int) (hl : a.length = b.length) (hb : a.length ≤ 140737488351232) : ∀ (d i : Nat), i ≤ a.length → a.length - i = d →
    Ev (fun k => withyref01_Ints.l0 k a b (i : Int)) (decide (a.drop i = b.drop i)) := by
  intro d
  induction d with
  | zero =>
    intro i h1 hd
    refine ev_step ?_
    simp only [withyref01_Ints.l0]
    refine ev_neg (by omega) (ev_some' ?_)
    rw [List.drop_of_length_le (by omega), List.drop_of_length_le (by omega)]
    rfl
  | succ d ih =>
    intro i h1 hd
    have hi : i < a.length := by omega
    have hj : i < b.length := by omega
    refine ev_step ?_
    simp only [withyref01_Ints.l0]
    refine ev_pos (by omega) (ev_pos (by omega) (ev_pos (by omega) ?_))
    rw [rd_nat a i hi, rd_nat b i hj, List.drop_eq_getElem_cons hi, List.drop_eq_getElem_cons hj]
    by_cases h : a[i] = b[i]
    · refine ev_pos h ?_
      rw [w64_succ (by omega)]
      refine ev_eq (ih (i + 1) (by omega) (by omega)) ?_
      rw [h]
      simp only [List.cons.injEq, true_and]
    · exact ev_neg h (ev_some' (by symm; apply decide_eq_false; intro e; injection e with e1 e2; exact h e1))
theorem ints_ev (a b : List Int) (hb : a.length ≤ 140737488351232) : Ev (fun k => withyref01_Ints.f k a b) (decide (a = b)) := by
  unfold withyref01_Ints.f
  by_cases h : a.length = b.length
  · exact ev_pos (by omega) (ints_loop a b h hb _ 0 (Nat.zero_le _) rfl)
  · exact ev_neg (by omega) (ev_some' (by symm; apply decide_eq_false; intro e; rw [e] at h; exact h rfl))
theorem numbers_loop (a b : List (List Int)) (hl : a.length = b.length) (hb : a.length ≤ 140737488351232) (hs : ∀ x ∈ a, x.length ≤ 140737488351232) : ∀ (d i : Nat), i ≤ a.length → a.length - i = d →
    Ev (fun k => withylaw17_numbers.l0 k a b (i : Int)) (decide (a.drop i = b.drop i)) := by
  intro d
  induction d with
  | zero =>
    intro i h1 hd
    refine ev_step ?_
    simp only [withylaw17_numbers.l0]
    refine ev_neg (by omega) (ev_some' ?_)
    rw [List.drop_of_length_le (by omega), List.drop_of_length_le (by omega)]
    rfl
  | succ d ih =>
    intro i h1 hd
    have hi : i < a.length := by omega
    have hj : i < b.length := by omega
    refine ev_step ?_
    simp only [withylaw17_numbers.l0]
    refine ev_pos (by omega) (ev_pos (by omega) (ev_pos (by omega) ?_))
    have r1 : rd_L5 a (i : Int) = a[i] := rdOf_nat _ a i hi
    have r2 : rd_L5 b (i : Int) = b[i] := rdOf_nat _ b i hj
    rw [r1, r2, List.drop_eq_getElem_cons hi, List.drop_eq_getElem_cons hj]
    refine ev_bind (ints_ev _ _ (hs _ (List.getElem_mem hi))) ?_
    by_cases h : a[i] = b[i]
    · refine ev_pos (decide_eq_true h) ?_
      rw [w64_succ (by omega)]
      refine ev_eq (ih (i + 1) (by omega) (by omega)) ?_
      rw [h]
      simp only [List.cons.injEq, true_and]
    · exact ev_neg (by simpa using h) (ev_some' (by symm; apply decide_eq_false; intro e; injection e with e1 e2; exact h e1))
theorem numbers_ev (a b : List (List Int)) (hb : a.length ≤ 140737488351232) (hs : ∀ x ∈ a, x.length ≤ 140737488351232) : Ev (fun k => withylaw17_numbers.f k a b) (decide (a = b)) := by
  unfold withylaw17_numbers.f
  by_cases h : a.length = b.length
  · exact ev_pos (by omega) (numbers_loop a b h hb hs _ 0 (Nat.zero_le _) rfl)
  · exact ev_neg (by omega) (ev_some' (by symm; apply decide_eq_false; intro e; rw [e] at h; exact h rfl))
theorem lists_loop (a b : List (List ByteArray)) (hl : a.length = b.length) (hb : a.length ≤ 140737488351232) (hs : ∀ x ∈ a, x.length ≤ 140737488351232) : ∀ (d i : Nat), i ≤ a.length → a.length - i = d →
    Ev (fun k => withylaw17_lists.l0 k a b (i : Int)) (decide (a.drop i = b.drop i)) := by
  intro d
  induction d with
  | zero =>
    intro i h1 hd
    refine ev_step ?_
    simp only [withylaw17_lists.l0]
    refine ev_neg (by omega) (ev_some' ?_)
    rw [List.drop_of_length_le (by omega), List.drop_of_length_le (by omega)]
    rfl
  | succ d ih =>
    intro i h1 hd
    have hi : i < a.length := by omega
    have hj : i < b.length := by omega
    refine ev_step ?_
    simp only [withylaw17_lists.l0]
    refine ev_pos (by omega) (ev_pos (by omega) (ev_pos (by omega) ?_))
    have r1 : rd_L4 a (i : Int) = a[i] := rdOf_nat _ a i hi
    have r2 : rd_L4 b (i : Int) = b[i] := rdOf_nat _ b i hj
    rw [r1, r2, List.drop_eq_getElem_cons hi, List.drop_eq_getElem_cons hj]
    refine ev_bind (words_ev _ _ (hs _ (List.getElem_mem hi))) ?_
    by_cases h : a[i] = b[i]
    · refine ev_pos (decide_eq_true h) ?_
      rw [w64_succ (by omega)]
      refine ev_eq (ih (i + 1) (by omega) (by omega)) ?_
      rw [h]
      simp only [List.cons.injEq, true_and]
    · exact ev_neg (by simpa using h) (ev_some' (by symm; apply decide_eq_false; intro e; injection e with e1 e2; exact h e1))
theorem lists_ev (a b : List (List ByteArray)) (hb : a.length ≤ 140737488351232) (hs : ∀ x ∈ a, x.length ≤ 140737488351232) : Ev (fun k => withylaw17_lists.f k a b) (decide (a = b)) := by
  unfold withylaw17_lists.f
  by_cases h : a.length = b.length
  · exact ev_pos (by omega) (lists_loop a b h hb hs _ 0 (Nat.zero_le _) rfl)
  · exact ev_neg (by omega) (ev_some' (by symm; apply decide_eq_false; intro e; rw [e] at h; exact h rfl))
/-! ### Right -/
def sizeOk (p : Int) : Bool := decide (p = 128) || decide (p = 256) || decide (p = 512) || decide (p = 1024)
def rightL (q : Int) : List UInt8 → List ByteArray → Bool
  | _, [] => true
  | a, s :: r => lt a (L s) && (decide ((s.size : Int) ≤ q) && rightL q (L s) r)
theorem right_loop (xs : List ByteArray) (p : Int) (hl : xs.length ≤ 140737488351232) : ∀ (d i : Nat) (a : ByteArray), i ≤ xs.length → xs.length - i = d →
    Ev (fun k => level_Right.l0 k p a xs (xs.length : Int) (i : Int)) (rightL (wrap64 (Int.tdiv p 8)) (L a) (xs.drop i) && sizeOk p) := by
  intro d
  induction d with
  | zero =>
    intro i a h1 hd
    refine ev_step ?_
    simp only [level_Right.l0]
    refine ev_neg (by omega) (ev_bind_now (show disk_Size.f p = some (sizeOk p) from rfl) (ev_some' ?_))
    rw [List.drop_of_length_le (by omega)]
    simp [rightL]
  | succ d ih =>
    intro i a h1 hd
    have hi : i < xs.length := by omega
    refine ev_step ?_
    simp only [level_Right.l0, L_toList]
    refine ev_pos (by omega) (ev_pos (by omega) (ev_pos (by omega) ?_))
    rw [rdOf_nat _ xs i hi, List.drop_eq_getElem_cons hi]
    simp only [rightL]
    by_cases h2 : lt (L a) (L xs[i]) = true
    · refine ev_pos h2 ?_
      by_cases h3 : (xs[i].size : Int) > wrap64 (Int.tdiv p 8)
      · refine ev_pos h3 (ev_some' ?_)
        rw [decide_eq_false (show ¬ (xs[i].size : Int) ≤ wrap64 (Int.tdiv p 8) by omega)]
        simp
      · refine ev_neg h3 ?_
        rw [w64_succ (by omega)]
        refine ev_eq (ih (i + 1) xs[i] (by omega) (by omega)) ?_
        rw [h2, decide_eq_true (show (xs[i].size : Int) ≤ wrap64 (Int.tdiv p 8) by omega)]
        simp
    · refine ev_neg h2 (ev_some' ?_)
      rw [show lt (L a) (L xs[i]) = false by simpa using h2]
      simp
theorem right_ev (xs : List ByteArray) (p : Int) (hl : xs.length ≤ 140737488351232) : Ev (fun k => level_Right.f k xs p) (rightL (wrap64 (Int.tdiv p 8)) [] xs && sizeOk p) := by
  unfold level_Right.f
  exact right_loop xs p hl _ 0 ⟨#[]⟩ (Nat.zero_le _) rfl
/-! ### the law's helpers -/
theorem many_loop (n : Nat) (hn : n ≤ 1000) : ∀ (d i : Nat) (acc : List ByteArray), i + d = n → acc.length = i →
    Ev (fun k => withylaw17_many.l0 k (n : Int) acc (i : Int)) (acc ++ (List.range d).map (fun j => strOfNums ([((i + j : Nat) : Int) + 1] : List Int))) ∨ 255 ≤ n := by
  intro d
  induction d with
  | zero =>
    intro i acc h1 h2
    left
    refine ev_step ?_
    simp only [withylaw17_many.l0]
    exact ev_neg (by omega) (ev_some' (by simp))
  | succ d ih =>
    intro i acc h1 h2
    by_cases hb : 255 ≤ n
    · exact .inr hb
    left
    refine ev_step ?_
    simp only [withylaw17_many.l0]
    refine ev_pos (by omega) (ev_pos (by omega) ?_)
    rw [w64 (x := (i : Int) + 1) (by omega) (by omega), show ((i : Int) + 1) % 256 = (i : Int) + 1 by omega]
    rcases ih (i + 1) (acc ++ [strOfNums [(i : Int) + 1]]) (by omega) (by simp; omega) with h | h
    · refine ev_eq h ?_
      rw [List.range_succ_eq_map, List.map_cons, List.append_assoc]
      simp
      intro j hj
      have : (i : Int) + 1 + (j : Int) + 1 = (i : Int) + ((j : Int) + 1) + 1 := by omega
      rw [this]
    · omega
def many20 : List ByteArray := [⟨#[1]⟩, ⟨#[2]⟩, ⟨#[3]⟩, ⟨#[4]⟩, ⟨#[5]⟩, ⟨#[6]⟩, ⟨#[7]⟩, ⟨#[8]⟩, ⟨#[9]⟩, ⟨#[10]⟩, ⟨#[11]⟩, ⟨#[12]⟩, ⟨#[13]⟩, ⟨#[14]⟩, ⟨#[15]⟩, ⟨#[16]⟩, ⟨#[17]⟩, ⟨#[18]⟩, ⟨#[19]⟩, ⟨#[20]⟩]
theorem many_ev : Ev (fun k => withylaw17_many.f k 20) many20 := by
  unfold withylaw17_many.f
  rcases many_loop 20 (by omega) 20 0 [] rfl rfl with h | h
  · refine ev_eq h ?_
    decide +kernel
  · omega
theorem sm_lit (l : List ByteArray) (h : (l.all (fun s => decide (s.size ≤ 16)) && decide (l.length ≤ 1000)) = true) : Sm l ∧ Tiny 128 l := by
  simp only [Bool.and_eq_true, List.all_eq_true, decide_eq_true_eq] at h
  exact ⟨⟨fun s hs => by have := h.1 s hs; omega, h.2⟩, fun s hs => by have := h.1 s hs; omega⟩
theorem fixed_ev : Ev (fun k => withylaw17_fixed.f k) true := by
  have s1 := sm_lit [(⟨#[98]⟩ : ByteArray), ⟨#[99]⟩] (by decide +kernel)
  have s0 := sm_lit [] (by decide +kernel)
  have s2 := sm_lit many20 (by decide +kernel)
  have g1 : group 128 [(⟨#[98]⟩ : ByteArray), ⟨#[99]⟩] = [3] := by decide +kernel
  have g0 : group 128 [] = [1] := by decide +kernel
  have g2 : group 128 many20 = [13, 8] := by decide +kernel
  unfold withylaw17_fixed.f
  refine ev_bind ev_some ?_
  refine ev_bind (right_ev _ _ (by decide)) (ev_pos (by decide +kernel) ?_)
  refine ev_bind (right_ev _ _ (by decide)) (ev_neg (by decide +kernel) ?_)
  refine ev_bind (right_ev _ _ (by decide)) (ev_neg (by decide +kernel) ?_)
  refine ev_bind (right_ev _ _ (by decide)) (ev_neg (by decide +kernel) ?_)
  refine ev_bind (right_ev _ _ (by decide)) (ev_pos (by decide +kernel) ?_)
  refine ev_bind (group_ev s1.1 128 (by omega) (by omega)) ?_
  refine ev_bind (ints_ev _ _ (by rw [g1]; decide)) (ev_pos (by rw [g1]; decide) ?_)
  refine ev_bind (group_ev s0.1 128 (by omega) (by omega)) ?_
  refine ev_bind (ints_ev _ _ (by rw [g0]; decide)) (ev_pos (by rw [g0]; decide) ?_)
  refine ev_bind (up_ev _ s1.1.2 [3] (by simp) (by decide) (by decide)) (ev_pos (by decide +kernel) ?_)
  refine ev_bind (down_ev _ s1.1.2 [3] (by simp) (by decide) (by decide)) ?_
  refine ev_bind (lists_ev _ _ (by decide +kernel) (by decide +kernel)) (ev_pos (by decide +kernel) ?_)
  refine ev_bind (heights_ev 128 (by omega) (by omega) s1.1 s1.2) ?_
  refine ev_bind (numbers_ev _ _ (by decide +kernel) (by decide +kernel)) (ev_pos (by decide +kernel) ?_)
  refine ev_bind (heights_ev 128 (by omega) (by omega) s0.1 s0.2) (ev_pos (by decide +kernel) ?_)
  refine ev_bind many_ev (ev_bind (group_ev s2.1 128 (by omega) (by omega)) ?_)
  refine ev_bind (ints_ev _ _ (by rw [g2]; decide)) (ev_pos (by rw [g2]; decide) ?_)
  refine ev_bind many_ev (ev_bind (up_ev _ s2.1.2 [13, 8] (by simp) (by decide) (by decide +kernel)) ?_)
  refine ev_bind (words_ev _ _ (by decide +kernel)) (ev_pos (by decide +kernel) ?_)
  refine ev_bind many_ev (ev_bind (heights_ev 128 (by omega) (by omega) s2.1 s2.2) ?_)
  exact ev_bind (numbers_ev _ _ (by decide +kernel) (by decide +kernel)) (ev_some' (by decide +kernel))
end Go.Proofs.Ytfialmegikegbaa.Spec
