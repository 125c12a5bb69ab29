/- What is proved here: the pure statement of LevelLonger: Seps with a text ahead, the same of all, need no fewer pages than without it. Conditions: sizes within the form's reach. -/
import Derived.Test.YtfialmegikegbaaStmtLevelLonger
import Derived.Test.YtfialmegikegbaaLevel3
import Derived.Test.YtfialmegikegbaaCut
set_option linter.unusedVariables false
set_option linter.unusedSimpArgs false
namespace Go.Proofs.Ytfialmegikegbaa.Pure
open Go.RowKit Go.Proofs.YtfialmegikegbaaW.PrintWords Go.Proofs.YtfialmegikegbaaW.PrintLast Go.Proofs.YtfialmegikegbaaW.PrintMore Go.Proofs.YtfialmegikegbaaEv Go.Proofs.YtfialmegikegbaaMath Go.Proofs.Ytfialmegikegbaa.P Go.Proofs.Ytfialmegikegbaa.Spec

/-! ### sizes -/
def sumsz (n : Nat) (l : List ByteArray) : Nat := (l.map (fun s => s.size - n)).sum
def pg (seps : List ByteArray) (high : ByteArray) : Nat := 11 + span (seps.map L) + high.size + 7 * seps.length + sumsz (span (seps.map L)) seps
theorem isz_pg (seps : List ByteArray) (high : ByteArray) : isz 1 (List.replicate seps.length 1) seps high = pg seps high := by
  rw [isz_eq _ _ _ _ (by simp)]
  unfold pg sumsz
  congr 2
  simp only [stripped, List.map_map]
  apply List.map_congr_left
  intro s hs
  show (s.extract (span (seps.map L)) s.size).size = _
  rw [size_extract]
  omega
theorem sumsz_le {n m : Nat} (h : n ≤ m) : ∀ (l : List ByteArray), (∀ s ∈ l, m ≤ s.size) → sumsz m l + l.length * (m - n) = sumsz n l
  | [], _ => by simp [sumsz]
  | s :: l, hs => by
    have h1 := hs s (List.mem_cons_self)
    have h2 := sumsz_le h l (fun x hx => hs x (List.mem_cons_of_mem _ hx))
    simp only [sumsz, List.map_cons, List.sum_cons, List.length_cons, Nat.succ_mul] at h2 ⊢
    omega
theorem span_tail (s : ByteArray) (r : List ByteArray) (hr : r ≠ []) : span ((s :: r).map L) ≤ span (r.map L) := by
  obtain ⟨x, t, rfl⟩ := List.exists_cons_of_ne_nil hr
  have h := span_all (l := (s :: x :: t).map L) (Nat.le_refl _) (a := L s) rfl
  show _ ≤ spanFrom (L x) (t.map L)
  rw [spanFrom_ge_iff]
  have hx := h (L x) (by simp)
  refine ⟨hx.1, fun y hy => ?_⟩
  have hy' := h y (by simp only [List.map_cons, List.mem_cons]; exact .inr (.inr hy))
  rw [cp_ge_iff]
  exact ⟨hx.1, hy'.1, hx.2.trans hy'.2.symm⟩
theorem pg_tail (s : ByteArray) (r : List ByteArray) (high : ByteArray) : pg r high ≤ pg (s :: r) high := by
  by_cases hr : r = []
  · subst hr
    unfold pg
    simp only [List.map_nil, List.length_nil, List.length_cons, sumsz, List.sum_nil]
    have : span ([] : List (List UInt8)) = 0 := rfl
    rw [this]
    omega
  · have h1 := span_tail s r hr
    have h2 := sumsz_le h1 r (fun x hx => span_le_size hx)
    have hpos : 0 < r.length := List.length_pos_iff.2 hr
    have h3 : span (r.map L) - span ((s :: r).map L) ≤ r.length * (span (r.map L) - span ((s :: r).map L)) := Nat.le_mul_of_pos_left _ hpos
    unfold pg
    have h4 : sumsz (span ((s :: r).map L)) (s :: r) = (s.size - span ((s :: r).map L)) + sumsz (span ((s :: r).map L)) r := by simp [sumsz]
    rw [h4, List.length_cons]
    omega
theorem fit_pg {p : Nat} {xs : List ByteArray} {n : Nat} (h1 : 1 ≤ n) (h2 : n ≤ xs.length + 1) : fit p xs n = decide (pg (xs.take (n - 1)) (highOf xs n) ≤ p - 16) := by
  have e : (xs.take (n - 1)).length = n - 1 := by rw [List.length_take]; omega
  have := isz_pg (xs.take (n - 1)) (highOf xs n)
  rw [e] at this
  unfold fit
  rw [this]
theorem highOf_drop' (xs : List ByteArray) (n : Nat) (h1 : 1 ≤ n) : highOf xs (n + 1) = highOf (xs.drop 1) n := by
  unfold highOf
  by_cases h : n + 1 - 1 < xs.length
  · rw [dif_pos h, dif_pos (by rw [List.length_drop]; omega), List.getElem_drop]
    congr 1
    omega
  · rw [dif_neg h, dif_neg (by rw [List.length_drop]; omega)]
theorem fit_tail {p : Nat} (s : ByteArray) (r : List ByteArray) (n : Nat) (h1 : 1 ≤ n) (h2 : n ≤ r.length + 1) (h : fit p (s :: r) (n + 1) = true) : fit p r n = true := by
  rw [fit_pg (by omega) (by simp; omega)] at h
  rw [fit_pg h1 h2]
  have e1 : (s :: r).take (n + 1 - 1) = s :: r.take (n - 1) := by
    obtain ⟨m, rfl⟩ : ∃ m, n = m + 1 := ⟨n - 1, by omega⟩
    rfl
  have e2 : highOf (s :: r) (n + 1) = highOf r n := by
    have := highOf_drop' (s :: r) n h1
    exact this
  rw [e1, e2] at h
  have := pg_tail s (r.take (n - 1)) (highOf r n)
  simp only [decide_eq_true_eq] at h ⊢
  omega
theorem fit_drop {p : Nat} : ∀ (j : Nat) (xs : List ByteArray) (n : Nat), 1 ≤ n → n + j ≤ xs.length + 1 → fit p xs (n + j) = true → fit p (xs.drop j) n = true
  | 0, xs, n, _, _, h => by simpa using h
  | j + 1, [], n, h1, h2, _ => by simp at h2; omega
  | j + 1, s :: r, n, h1, h2, h => by
    rw [List.drop_succ_cons]
    exact fit_drop j r n h1 (by simp at h2; omega) (fit_tail s r (n + j) (by omega) (by simp at h2; omega) h)
/-! ### a text ahead -/
def ahead (a : ByteArray) (xs : List ByteArray) : List ByteArray := xs.map (fun s => a ++ s)
theorem ahead_length (a : ByteArray) (xs : List ByteArray) : (ahead a xs).length = xs.length := by simp [ahead]
theorem ahead_take (a : ByteArray) (xs : List ByteArray) (n : Nat) : (ahead a xs).take n = ahead a (xs.take n) := by simp [ahead, List.map_take]
theorem ahead_drop (a : ByteArray) (xs : List ByteArray) (n : Nat) : (ahead a xs).drop n = ahead a (xs.drop n) := by simp [ahead, List.map_drop]
theorem span_ahead (a : ByteArray) (xs : List ByteArray) (hn : xs ≠ []) : span ((ahead a xs).map L) = a.size + span (xs.map L) := by
  obtain ⟨s, r, rfl⟩ := List.exists_cons_of_ne_nil hn
  have e : (ahead a (s :: r)).map L = (L a ++ L s) :: (r.map L).map (L a ++ ·) := by
    simp only [ahead, List.map_cons, List.map_map]
    refine List.cons_eq_cons.2 ⟨L_append a s, ?_⟩
    first
    | rfl
    | (apply List.map_congr_left
       intro x _
       exact L_append a x)
  rw [e]
  show spanFrom _ _ = _
  rw [spanFrom_append, L_length]
  rfl
theorem pg_ahead (a : ByteArray) (xs : List ByteArray) (h h' : ByteArray) (hh : h.size ≤ h'.size) : pg xs h ≤ pg (ahead a xs) h' := by
  by_cases hn : xs = []
  · subst hn
    unfold pg
    simp only [ahead, List.map_nil]
    omega
  · unfold pg
    rw [span_ahead a xs hn, ahead_length]
    have : sumsz (a.size + span (xs.map L)) (ahead a xs) = sumsz (span (xs.map L)) xs := by
      unfold sumsz ahead
      rw [List.map_map]
      congr 1
      apply List.map_congr_left
      intro s _
      show (a ++ s).size - _ = _
      rw [size_append']
      omega
    rw [this]
    omega
theorem high_ahead (a : ByteArray) (xs : List ByteArray) (n : Nat) : (highOf xs n).size ≤ (highOf (ahead a xs) n).size := by
  unfold highOf
  by_cases h : n - 1 < xs.length
  · rw [dif_pos h, dif_pos (by rw [ahead_length]; exact h)]
    simp only [ahead, List.getElem_map]
    rw [size_append']
    omega
  · rw [dif_neg h]
    exact Nat.zero_le _
theorem fit_ahead {p : Nat} (a : ByteArray) (xs : List ByteArray) (n : Nat) (h1 : 1 ≤ n) (h2 : n ≤ xs.length + 1) (h : fit p (ahead a xs) n = true) : fit p xs n = true := by
  rw [fit_pg h1 (by rw [ahead_length]; exact h2), ahead_take] at h
  rw [fit_pg h1 h2]
  have := pg_ahead a (xs.take (n - 1)) _ _ (high_ahead a xs n)
  simp only [decide_eq_true_eq] at h ⊢
  omega
/-- The first page ends no later. -/
theorem ends {p : Nat} (a : ByteArray) (xs : List ByteArray) (i j : Nat) (hij : i ≤ j) (hj : j ≤ xs.length) : i + first p ((ahead a xs).drop i) ≤ j + first p (xs.drop j) := by
  have g1 := first_ge p (xs.drop j)
  have g2 := first_le p ((ahead a xs).drop i)
  rw [List.length_drop, ahead_length] at g2
  by_cases hm : i + first p ((ahead a xs).drop i) ≤ j
  · omega
  · have : i + first p ((ahead a xs).drop i) - j ≤ first p (xs.drop j) := by
      refine firstN_of_fit p (xs.drop j) _ _ 1 (fun k hk1 hk2 => ?_) (by rw [List.length_drop]; omega)
      have hf : fit p ((ahead a xs).drop i) (k + (j - i)) = true := firstN_fit p _ _ 1 (k + (j - i)) (by omega) (by show _ ≤ first p ((ahead a xs).drop i); omega)
      rw [ahead_drop] at hf
      have hf2 := fit_ahead a (xs.drop i) (k + (j - i)) (by omega) (by rw [List.length_drop]; omega) hf
      have := fit_drop (j - i) (xs.drop i) k (by omega) (by rw [List.length_drop]; omega) hf2
      rw [List.drop_drop, show i + (j - i) = j by omega] at this
      exact this
    omega
theorem no_fewer {p : Nat} (a : ByteArray) (xs : List ByteArray) : ∀ (f i j : Nat), i ≤ j → j ≤ xs.length → xs.length - i < f → (group p (xs.drop j)).length ≤ (group p ((ahead a xs).drop i)).length := by
  intro f
  induction f with
  | zero => intro i j _ _ h; omega
  | succ f ih =>
    intro i j hij hj hf
    have he := ends (p := p) a xs i j hij hj
    have g1 := first_ge p (xs.drop j)
    have g2 := first_ge p ((ahead a xs).drop i)
    rw [group_eq p (xs.drop j), group_eq p ((ahead a xs).drop i)]
    by_cases hl : (xs.drop j).length < first p (xs.drop j)
    · rw [if_pos hl]
      simp
    · rw [if_neg hl]
      rw [List.length_drop] at hl
      have hl2 : ¬ ((ahead a xs).drop i).length < first p ((ahead a xs).drop i) := by rw [List.length_drop, ahead_length]; omega
      rw [if_neg hl2, List.drop_drop, List.drop_drop]
      have := ih (i + first p ((ahead a xs).drop i)) (j + first p (xs.drop j)) he (by omega) (by omega)
      simp only [List.length_cons]
      omega
/-! ### the law's own lists -/
def cut6 (s : ByteArray) : ByteArray := s.extract 0 (min s.size 6)
theorem cut6_size (s : ByteArray) : (cut6 s).size ≤ 6 := by unfold cut6; rw [size_extract]; omega
theorem long_l1 (a : ByteArray) (ha : a.size ≤ 6) (xs : List ByteArray) (hx : xs.length ≤ 1000) (h6 : ∀ s ∈ xs, s.size ≤ 6) (R : Ev (fun k => withylaw17_LevelLonger.l1 k a xs (ahead a xs) (xs.length : Int)) true) : ∀ (d i : Nat), i ≤ xs.length → xs.length - i = d →
    Ev (fun k => withylaw17_LevelLonger.l1 k a xs ((ahead a xs).take i) (i : Int)) true := by
  intro d
  induction d with
  | zero =>
    intro i h1 hd
    obtain rfl : i = xs.length := by omega
    rw [List.take_of_length_le (by rw [ahead_length]; exact Nat.le_refl _)]
    exact R
  | succ d ih =>
    intro i h1 hd
    have hi : i < xs.length := by omega
    have hs := h6 _ (List.getElem_mem hi)
    refine ev_step ?_
    simp only [withylaw17_LevelLonger.l1]
    rw [rdOf_nat _ xs i hi, w64_succ (by omega)]
    have e : (ahead a xs).take i ++ [a ++ xs[i]] = (ahead a xs).take (i + 1) := by
      rw [List.take_add_one, List.getElem?_eq_getElem (by rw [ahead_length]; exact hi)]
      simp [ahead]
    rw [e]
    refine ev_pos (by omega) (ev_pos (by omega) (ev_pos (by omega) (ev_pos (by rw [List.length_take, ahead_length]; omega) (ih (i + 1) (by omega) (by omega)))))
theorem rises_ahead (q : Int) (a : ByteArray) (b : List UInt8) : ∀ (xs : List ByteArray), (∀ s ∈ xs, ((a ++ s).size : Int) ≤ q) → rightL q b xs = true → rightL q (L a ++ b) (ahead a xs) = true
  | [], _, _ => rfl
  | s :: r, hq, h => by
    simp only [rightL, Bool.and_eq_true, decide_eq_true_eq] at h
    simp only [ahead, List.map_cons, rightL, Bool.and_eq_true, decide_eq_true_eq]
    rw [L_append]
    exact ⟨by rw [lt_append_left]; exact h.1, hq s (List.mem_cons_self), rises_ahead q a (L s) r (fun x hx => hq x (List.mem_cons_of_mem _ hx)) h.2.2⟩
theorem rises_ahead0 (q : Int) (a : ByteArray) (xs : List ByteArray) (hq : ∀ s ∈ xs, ((a ++ s).size : Int) ≤ q) (h : rightL q [] xs = true) : rightL q [] (ahead a xs) = true := by
  cases xs with
  | nil => rfl
  | cons s r =>
    simp only [rightL, Bool.and_eq_true, decide_eq_true_eq] at h
    simp only [ahead, List.map_cons, rightL, Bool.and_eq_true, decide_eq_true_eq]
    rw [L_append]
    refine ⟨?_, hq s (List.mem_cons_self), rises_ahead q a (L s) r (fun x hx => hq x (List.mem_cons_of_mem _ hx)) h.2.2⟩
    rw [lt_nil_iff]
    have := (lt_nil_iff _).1 h.1
    intro e
    exact this (List.append_eq_nil_iff.1 e).2
theorem longer_end (a : ByteArray) (ha : a.size ≤ 6) (xs : List ByteArray) (hx : xs.length ≤ 30) (h6 : ∀ s ∈ xs, s.size ≤ 6) (hr : Rises 128 xs) : Ev (fun k => withylaw17_LevelLonger.l1 k a xs (ahead a xs) (xs.length : Int)) true := by
  have hal := ahead_length a xs
  have h12 : ∀ s ∈ ahead a xs, s.size ≤ 12 := fun s hs => by
    obtain ⟨x, hx, rfl⟩ := List.mem_map.1 hs
    have := h6 x hx
    rw [size_append']
    omega
  have hra : Rises 128 (ahead a xs) := by
    refine rises_ahead0 _ a xs (fun s hs => ?_) hr
    rw [q_eq 128 (by omega)]
    have := h6 s hs
    rw [size_append']
    omega
  have s1 : Sm xs := ⟨fun s hs => by have := h6 s hs; omega, by omega⟩
  have s2 : Sm (ahead a xs) := ⟨fun s hs => by have := h12 s hs; omega, by omega⟩
  have t2 : Tiny 128 (ahead a xs) := fun s hs => by have := h12 s hs; omega
  have hok : sizeOk (128 : Int) = true := by decide
  have r1 : rightL (wrap64 (Int.tdiv (128 : Int) 8)) [] xs = true := hr
  have r2 : rightL (wrap64 (Int.tdiv (128 : Int) 8)) [] (ahead a xs) = true := hra
  refine ev_step ?_
  simp only [withylaw17_LevelLonger.l1]
  refine ev_neg (by omega) (ev_bind (right_ev _ _ (by omega)) (ev_pos (by rw [r1, hok]; rfl) (ev_bind (right_ev _ _ (by omega)) (ev_step ?_))))
  simp only [withylaw17_LevelLonger.j2]
  rw [r2, hok]
  refine ev_neg (by decide) (ev_bind (group_ev s1 128 (by omega) (by omega)) (ev_bind (group_ev s2 128 (by omega) (by omega)) ?_))
  have n1 : 1 ≤ (group 128 xs).length := List.length_pos_iff.2 (group_ne _ _)
  have n2 : 1 ≤ (group 128 (ahead a xs)).length := List.length_pos_iff.2 (group_ne _ _)
  have hno := no_fewer (p := 128) a xs (xs.length + 1) 0 0 (Nat.le_refl _) (Nat.zero_le _) (by omega)
  have hen := ends (p := 128) a xs 0 0 (Nat.le_refl _) (Nat.zero_le _)
  simp only [List.drop_zero] at hno hen
  have g1 : rd (ints (group 128 xs)) 0 = (first 128 xs : Int) := by rw [group_eq]; rfl
  have g2 : rd (ints (group 128 (ahead a xs))) 0 = (first 128 (ahead a xs) : Int) := by rw [group_eq]; rfl
  rw [ints_length, ints_length, g1, g2, mn_eq, w64_succ (by omega)]
  have f1 := first_ge 128 (ahead a xs)
  have f2 : xs ≠ [] → 2 ≤ first 128 (ahead a xs) := fun hn => first_two (by omega) t2 (fun e => hn (by simpa [ahead] using e))
  have hmin : (min (2 : Int) (((ahead a xs).length + 1 : Nat) : Int)) ≤ (first 128 (ahead a xs) : Int) := by
    by_cases hn : xs = []
    · subst hn
      simp only [ahead, List.map_nil, List.length_nil] at f1 ⊢
      omega
    · have := f2 hn
      omega
  exact ev_neg (by omega) (ev_neg (by omega) (ev_pos (by omega) (ev_pos (by omega) (ev_pos (by omega) (ev_pos (by omega) (ev_pos (by omega) (ev_bind fixed_ev ev_some)))))))
theorem short_l0 (a : ByteArray) (ha : a.size ≤ 6) (l : List ByteArray) (hl : l.length ≤ 30) : ∀ (d i : Nat) (acc : List ByteArray), i ≤ l.length → l.length - i = d → acc.length ≤ i → Rises 128 acc → (∀ s ∈ acc, s.size ≤ 6) →
    Ev (fun k => withylaw17_LevelLonger.l0 k l a acc (i : Int)) true := by
  intro d
  induction d with
  | zero =>
    intro i acc h1 hd hacc hr h6
    refine ev_step ?_
    simp only [withylaw17_LevelLonger.l0]
    refine ev_neg (by omega) ?_
    have := long_l1 a ha acc (by omega) h6 (longer_end a ha acc (by omega) h6 hr) _ 0 (Nat.zero_le _) rfl
    simpa using this
  | succ d ih =>
    intro i acc h1 hd hacc hr h6
    have hi : i < l.length := by omega
    have hw : wrap64 ((i : Int) + 1) = ((i + 1 : Nat) : Int) := w64_succ (by omega)
    have hm : (min (l[i].size : Int) 6).toNat = min l[i].size 6 := by omega
    have hc : l[i].extract 0 (min l[i].size 6) = cut6 l[i] := rfl
    have hcs := cut6_size l[i]
    refine ev_step ?_
    simp only [withylaw17_LevelLonger.l0, L_toList, mn_eq]
    rw [rdOf_nat _ l i hi, hw, hm, hc]
    refine ev_pos (by omega) (ev_pos (by omega) (ev_pos (by omega) (ev_pos (by omega) ?_)))
    have skip := ih (i + 1) acc (by omega) (by omega) (by omega) hr h6
    by_cases h3 : L (cut6 l[i]) = []
    · exact ev_pos h3 skip
    · refine ev_neg h3 ?_
      have take : lt (lastOf [] acc) (L (cut6 l[i])) = true → Ev (fun k => withylaw17_LevelLonger.l0 k l a (acc ++ [cut6 l[i]]) ((i + 1 : Nat) : Int)) true := fun h4 =>
        ih (i + 1) (acc ++ [cut6 l[i]]) (by omega) (by omega) (by simp; omega) (by
          unfold Rises
          rw [rightL_snoc, show rightL _ [] acc = true from hr, h4, q_eq 128 (by omega), decide_eq_true (by omega)]
          rfl) (fun s hs => by
          rcases List.mem_append.1 hs with hs | hs
          · exact h6 s hs
          · rw [List.mem_singleton.1 hs]; exact hcs)
      by_cases h5 : acc.length = 0
      · obtain rfl : acc = [] := List.eq_nil_of_length_eq_zero h5
        exact ev_pos rfl (ev_pos (by simp) (take ((lt_nil_iff _).2 h3)))
      · have hlast := lastOf_get acc [] (by omega)
        have hw2 : wrap64 ((acc.length : Int) - 1) = ((acc.length - 1 : Nat) : Int) := by rw [w64 (by omega) (by omega)]; omega
        rw [hw2, rdOf_nat _ acc (acc.length - 1) (by omega), ← hlast]
        refine ev_neg (by omega) (ev_pos (by omega) (ev_pos (by omega) ?_))
        by_cases h7 : lt (lastOf [] acc) (L (cut6 l[i])) = true
        · exact ev_pos h7 (ev_pos (by omega) (take h7))
        · exact ev_neg h7 skip
theorem LevelLonger : withylaw17_LevelLonger.Pure := by
  intro l a hl ha
  have hm : (min (a.size : Int) 6).toNat = min a.size 6 := by omega
  refine Ev.rounds ?_
  show Ev (fun k => withylaw17_LevelLonger.f k l a) true
  unfold withylaw17_LevelLonger.f
  rw [mn_eq, hm]
  refine ev_pos (by omega) (ev_pos (by omega) (ev_bind (cut_ev l) ?_))
  exact short_l0 _ (by rw [size_extract]; omega) (cutAll l) (cutAll_length l) _ 0 [] (Nat.zero_le _) rfl (Nat.zero_le _) rfl (by simp)
end Go.Proofs.Ytfialmegikegbaa.Pure
