/- What is proved here: what the law's own cuts and rises answer, in plain words. Conditions: sizes within the form's reach. -/
import Derived.Test.YtfialmegikegbaaPF
import Derived.Test.YtfialmegikegbaaPS
import Derived.Test.YtfialmegikegbaaLevel2
set_option linter.unusedVariables false
set_option linter.unusedSimpArgs false
namespace Go.Proofs.Ytfialmegikegbaa.Spec
open Go.RowKit Go.Proofs.YtfialmegikegbaaW.PrintWords Go.Proofs.YtfialmegikegbaaW.PrintLast Go.Proofs.YtfialmegikegbaaW.PrintMore Go.Proofs.YtfialmegikegbaaEv Go.Proofs.YtfialmegikegbaaMath Go.Proofs.YtfialmegikegbaaSlot Go.Proofs.Ytfialmegikegbaa.P Go.Proofs.YtfialmegikegbaaW.Abbr

theorem sum_take_succ : ∀ (g : List Nat) (i : Nat) (h : i < g.length), (g.take (i + 1)).sum = (g.take i).sum + g[i]
  | x :: g, 0, _ => by simp
  | x :: g, i + 1, h => by
    have := sum_take_succ g i (by simpa using h)
    simp only [List.take_succ_cons, List.sum_cons, List.getElem_cons_succ]
    rw [this]
    omega
theorem sum_take_le (g : List Nat) (i : Nat) : (g.take i).sum ≤ g.sum := by
  have := congrArg List.sum (List.take_append_drop i g)
  rw [List.sum_append] at this
  omega
theorem size16 (a : Int) : ∃ p : Nat, withylaw16_Size.f a = some (p : Int) ∧ (p = 128 ∨ p = 256 ∨ p = 512 ∨ p = 1024) := by
  unfold withylaw16_Size.f
  split
  · exact ⟨256, rfl, by omega⟩
  · split
    · exact ⟨512, rfl, by omega⟩
    · split
      · exact ⟨1024, rfl, by omega⟩
      · exact ⟨128, rfl, by omega⟩
def cut140 (s : ByteArray) : ByteArray := s.extract 0 (min s.size 140)
theorem cut_loop (l : List ByteArray) : ∀ (d i : Nat) (acc : List ByteArray), i ≤ 60 → i ≤ l.length → acc.length = i → min l.length 60 - i = d →
    Ev (fun k => withylaw17_Cut.l0 k l acc (i : Int)) (acc ++ ((l.take 60).drop i).map cut140) := by
  intro d
  induction d with
  | zero =>
    intro i acc h1 h2 ha hd
    refine ev_step ?_
    simp only [withylaw17_Cut.l0]
    have e : (l.take 60).drop i = [] := List.drop_of_length_le (by rw [List.length_take]; omega)
    rw [e]
    by_cases hl : i < l.length
    · exact ev_pos (by omega) (ev_neg (by omega) (ev_some' (by simp)))
    · exact ev_neg (by omega) (ev_some' (by simp))
  | succ d ih =>
    intro i acc h1 h2 ha hd
    have hi : i < l.length := by omega
    refine ev_step ?_
    simp only [withylaw17_Cut.l0, mn_eq]
    rw [rdOf_nat _ l i hi]
    have hm : (min (l[i].size : Int) 140).toNat = min l[i].size 140 := by omega
    refine ev_pos (by omega) (ev_pos (by omega) (ev_pos (by omega) (ev_pos (by omega) (ev_pos (by omega) (ev_pos (by omega) ?_)))))
    rw [hm, w64_succ (by omega)]
    refine ev_eq (ih (i + 1) _ (by omega) (by omega) (by simp; omega) (by omega)) ?_
    have e : (l.take 60).drop i = l[i] :: (l.take 60).drop (i + 1) := by
      rw [List.drop_eq_getElem_cons (by rw [List.length_take]; omega), List.getElem_take]
    rw [e, List.map_cons, List.append_assoc]
    rfl
def cut17 (l : List ByteArray) : List ByteArray := (l.take 60).map cut140
theorem cut17_ev (l : List ByteArray) : Ev (fun k => withylaw17_Cut.f k l) (cut17 l) := by
  unfold withylaw17_Cut.f
  exact cut_loop l _ 0 [] (by omega) (Nat.zero_le _) rfl rfl
theorem cut17_length (l : List ByteArray) : (cut17 l).length ≤ 60 := by unfold cut17; simp; omega
/-! ### rising -/
def lastOf (a : List UInt8) : List ByteArray → List UInt8
  | [] => a
  | s :: r => lastOf (L s) r
theorem rightL_snoc (q : Int) (s : ByteArray) : ∀ (l : List ByteArray) (a : List UInt8), rightL q a (l ++ [s]) = (rightL q a l && (lt (lastOf a l) (L s) && decide ((s.size : Int) ≤ q)))
  | [], a => by simp [rightL, lastOf]
  | x :: l, a => by
    rw [List.cons_append, rightL, rightL, rightL_snoc q s l (L x), lastOf]
    simp only [Bool.and_assoc]
theorem lastOf_get : ∀ (l : List ByteArray) (a : List UInt8) (h : 0 < l.length), lastOf a l = L (l[l.length - 1]'(by omega))
  | [x], a, _ => rfl
  | x :: y :: r, a, _ => by
    rw [lastOf, lastOf_get (y :: r) (L x) (by simp)]
    rfl
theorem rightL_size {q : Int} : ∀ {l : List ByteArray} {a : List UInt8}, rightL q a l = true → ∀ s ∈ l, (s.size : Int) ≤ q
  | [], _, _ => by simp
  | x :: l, a, h => by
    simp only [rightL, Bool.and_eq_true, decide_eq_true_eq] at h
    intro s hs
    rcases List.mem_cons.1 hs with rfl | hs
    · exact h.2.1
    · exact rightL_size h.2.2 s hs
def Rises (p : Nat) (xs : List ByteArray) : Prop := rightL (wrap64 (Int.tdiv (p : Int) 8)) [] xs = true
theorem q_eq (p : Nat) (hp : p ≤ 4096) : wrap64 (Int.tdiv (p : Int) 8) = ((p / 8 : Nat) : Int) := by
  rw [Int.tdiv_eq_ediv_of_nonneg (by omega), w64 (by omega) (by omega)]
  omega
theorem Rises.tiny {p : Nat} {xs : List ByteArray} (hp : p ≤ 4096) (h : Rises p xs) : Tiny p xs := fun s hs => by
  have := rightL_size h s hs
  rw [q_eq p hp] at this
  omega
theorem Rises.sm {p : Nat} {xs : List ByteArray} (hp : p ≤ 1024) (h : Rises p xs) (hl : xs.length ≤ 1000) : Sm xs := ⟨fun s hs => by
  have := h.tiny (by omega) s hs
  omega, hl⟩
theorem lt_nil_iff (s : List UInt8) : lt [] s = true ↔ ¬ s = [] := by cases s <;> simp [lt, Op.bytesLess]
theorem rise_loop (l : List ByteArray) (p : Nat) (hl : l.length ≤ 1000) : ∀ (d i : Nat) (acc : List ByteArray), i ≤ l.length → l.length - i = d → acc.length ≤ i → Rises p acc →
    ∃ xs, Ev (fun k => withylaw17_Rise.l0 k l (p : Int) acc (i : Int)) xs ∧ xs.length ≤ l.length ∧ Rises p xs := by
  intro d
  induction d with
  | zero =>
    intro i acc h1 hd ha hr
    refine ⟨acc, ev_step ?_, by omega, hr⟩
    simp only [withylaw17_Rise.l0]
    exact ev_neg (by omega) ev_some
  | succ d ih =>
    intro i acc h1 hd ha hr
    have hi : i < l.length := by omega
    have hw : wrap64 ((i : Int) + 1) = ((i + 1 : Nat) : Int) := w64_succ (by omega)
    have skip := ih (i + 1) acc (by omega) (by omega) (by omega) hr
    by_cases h2 : (l[i].size : Int) ≤ wrap64 (Int.tdiv (p : Int) 8)
    · by_cases h3 : L l[i] = []
      · obtain ⟨xs, e, b, c⟩ := skip
        refine ⟨xs, ev_step ?_, b, c⟩
        simp only [withylaw17_Rise.l0, L_toList]
        rw [rdOf_nat _ l i hi, hw]
        exact ev_pos (by omega) (ev_pos (by omega) (ev_pos h2 (ev_pos h3 e)))
      · have take : lt (lastOf [] acc) (L l[i]) = true → ∃ xs, Ev (fun k => withylaw17_Rise.l0 k l (p : Int) (acc ++ [l[i]]) ((i + 1 : Nat) : Int)) xs ∧ xs.length ≤ l.length ∧ Rises p xs := fun h4 =>
          ih (i + 1) (acc ++ [l[i]]) (by omega) (by omega) (by simp; omega) (by unfold Rises; rw [rightL_snoc, show rightL _ [] acc = true from hr, h4, decide_eq_true h2]; rfl)
        by_cases h5 : acc.length = 0
        · obtain rfl : acc = [] := List.eq_nil_of_length_eq_zero h5
          obtain ⟨xs, e, b, c⟩ := take ((lt_nil_iff _).2 h3)
          refine ⟨xs, ev_step ?_, b, c⟩
          simp only [withylaw17_Rise.l0, L_toList]
          rw [rdOf_nat _ l i hi, hw]
          exact ev_pos (by omega) (ev_pos (by omega) (ev_pos h2 (ev_neg h3 (ev_pos rfl (ev_pos (by simp) e)))))
        · have hlast := lastOf_get acc [] (by omega)
          have hw2 : wrap64 ((acc.length : Int) - 1) = ((acc.length - 1 : Nat) : Int) := by rw [w64 (by omega) (by omega)]; omega
          by_cases h6 : lt (lastOf [] acc) (L l[i]) = true
          · obtain ⟨xs, e, b, c⟩ := take h6
            refine ⟨xs, ev_step ?_, b, c⟩
            simp only [withylaw17_Rise.l0, L_toList]
            rw [rdOf_nat _ l i hi, hw, hw2, rdOf_nat _ acc (acc.length - 1) (by omega), ← hlast]
            exact ev_pos (by omega) (ev_pos (by omega) (ev_pos h2 (ev_neg h3 (ev_neg (by omega) (ev_pos (by omega) (ev_pos (by omega) (ev_pos h6 (ev_pos (by omega) e))))))))
          · obtain ⟨xs, e, b, c⟩ := skip
            refine ⟨xs, ev_step ?_, b, c⟩
            simp only [withylaw17_Rise.l0, L_toList]
            rw [rdOf_nat _ l i hi, hw, hw2, rdOf_nat _ acc (acc.length - 1) (by omega), ← hlast]
            exact ev_pos (by omega) (ev_pos (by omega) (ev_pos h2 (ev_neg h3 (ev_neg (by omega) (ev_pos (by omega) (ev_pos (by omega) (ev_neg h6 e)))))))
    · obtain ⟨xs, e, b, c⟩ := skip
      refine ⟨xs, ev_step ?_, b, c⟩
      simp only [withylaw17_Rise.l0, L_toList]
      rw [rdOf_nat _ l i hi, hw]
      exact ev_pos (by omega) (ev_pos (by omega) (ev_neg h2 e))
theorem rise_ev (l : List ByteArray) (p : Nat) (hp : p ≤ 1024) : ∃ xs, Ev (fun k => withylaw17_Rise.f k l (p : Int)) xs ∧ xs.length ≤ 60 ∧ Rises p xs ∧ Tiny p xs ∧ Sm xs := by
  obtain ⟨xs, e, b, c⟩ := rise_loop (cut17 l) p (by have := cut17_length l; omega) _ 0 [] (Nat.zero_le _) rfl (Nat.zero_le _) rfl
  have hc := cut17_length l
  refine ⟨xs, ?_, by omega, c, c.tiny (by omega), c.sm hp (by omega)⟩
  unfold withylaw17_Rise.f
  exact ev_bind (cut17_ev l) e
end Go.Proofs.Ytfialmegikegbaa.Spec
