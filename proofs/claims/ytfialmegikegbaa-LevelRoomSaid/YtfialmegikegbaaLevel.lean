/- What is proved here: how kids stand on pages, in plain words, and that the program's printed functions of level answer just so. Conditions: at most 1000 texts of at most 128 bytes; page sizes of 128 to 4096. -/
import Derived.Test.YtfialmegikegbaaPF
import Derived.Test.YtfialmegikegbaaInner
set_option linter.unusedVariables false
set_option linter.unusedSimpArgs false
namespace Go.Proofs.Ytfialmegikegbaa.Spec
open Go.RowKit Go.Proofs.YtfialmegikegbaaW.PrintWords Go.Proofs.YtfialmegikegbaaW.PrintLast Go.Proofs.YtfialmegikegbaaW.PrintMore Go.Proofs.YtfialmegikegbaaEv Go.Proofs.YtfialmegikegbaaMath Go.Proofs.YtfialmegikegbaaSlot Go.Proofs.Ytfialmegikegbaa.P Go.Proofs.YtfialmegikegbaaW.Abbr

def highOf (xs : List ByteArray) (n : Nat) : ByteArray := if h : n - 1 < xs.length then xs[n - 1] else ⟨#[]⟩
/-- Do so many kids fit? -/
def fit (p : Nat) (xs : List ByteArray) (n : Nat) : Bool := decide (isz 1 (List.replicate (n - 1) 1) (xs.take (n - 1)) (highOf xs n) ≤ p - 16)
def Sm (xs : List ByteArray) : Prop := (∀ s ∈ xs, s.size ≤ 128) ∧ xs.length ≤ 1000
theorem Sm.drop {xs : List ByteArray} (h : Sm xs) (n : Nat) : Sm (xs.drop n) := ⟨fun s hs => h.1 s (List.mem_of_mem_drop hs), by rw [List.length_drop]; have := h.2; omega⟩
theorem Sm.take {xs : List ByteArray} (h : Sm xs) (n : Nat) : Sm (xs.take n) := ⟨fun s hs => h.1 s (List.mem_of_mem_take hs), by rw [List.length_take]; have := h.2; omega⟩
theorem Sm.high {xs : List ByteArray} (h : Sm xs) (n : Nat) : (highOf xs n).size ≤ 240 := by
  unfold highOf
  split
  · exact Nat.le_trans (h.1 _ (List.getElem_mem _)) (by omega)
  · exact Nat.zero_le _
theorem ones (n : Nat) (h : 1 ≤ n) : (List.replicate n (1 : Int)) = ((1 :: List.replicate (n - 1) 1 : List Nat)).map (fun x : Nat => (x : Int)) := by
  obtain ⟨m, rfl⟩ : ∃ m, n = m + 1 := ⟨n - 1, by omega⟩
  simp [List.replicate_succ]
theorem ones_mem (n : Nat) : ∀ x ∈ (1 :: List.replicate n 1 : List Nat), 1 ≤ x ∧ x < 4096 := by
  intro x hm
  have : x = 1 := by
    rcases List.mem_cons.1 hm with h | h
    · exact h
    · exact List.eq_of_mem_replicate h
  omega
theorem getD_get {α : Type} (l : List α) (i : Nat) (d : α) (h : i < l.length) : l.getD i d = l[i] := by
  rw [List.getD_eq_getElem?_getD, List.getElem?_eq_getElem h, Option.getD_some]
theorem fits_loop {xs : List ByteArray} (hx : Sm xs) (n p : Nat) (h1 : 1 ≤ n) (h2 : n ≤ xs.length + 1) (hp1 : 16 ≤ p) (hp : p ≤ 4096) : ∀ (d i : Nat), i ≤ n → n - i = d →
    Ev (fun k => level_fits.l0 k xs (n : Int) (p : Int) (n : Int) (i : Int) 0 0 0 (⟨#[]⟩ : ByteArray) (List.replicate i 1 ++ List.replicate (n - i) 0) (xs.take (n - 1))) (fit p xs n) := by
  intro d
  have hlen := hx.2
  have htl : (xs.take (n - 1)).length = n - 1 := by rw [List.length_take]; omega
  induction d with
  | zero =>
    intro i hi hd
    obtain rfl : i = n := by omega
    refine ev_step ?_
    simp only [level_fits.l0]
    refine ev_neg (by omega) ?_
    rw [Nat.sub_self, List.replicate_zero, List.append_nil, ones i h1]
    have hs := size_ev 1 (List.replicate (i - 1) 1) (xs.take (i - 1)) (highOf xs i) (by rw [htl, List.length_replicate]) (ones_mem _) (hx.take _).1 (hx.high i) (by omega) 0 0 0
    have hz := isz_le 1 (List.replicate (i - 1) 1) (xs.take (i - 1)) (highOf xs i) (by rw [htl, List.length_replicate]) (hx.take _).1 (hx.high i) (by omega)
    have hfin : decide ((isz 1 (List.replicate (i - 1) 1) (xs.take (i - 1)) (highOf xs i) : Int) ≤ wrap64 ((p : Int) - 16)) = fit p xs i := by
      rw [w64 (by omega) (by omega)]
      unfold fit
      by_cases q : isz 1 (List.replicate (i - 1) 1) (xs.take (i - 1)) (highOf xs i) ≤ p - 16
      · rw [decide_eq_true q]; exact decide_eq_true (by omega)
      · rw [decide_eq_false q]; exact decide_eq_false (by omega)
    by_cases hle : i ≤ xs.length
    · refine ev_pos (by omega) ?_
      rw [w64 (x := (i : Int) - 1) (by omega) (by omega), show (i : Int) - 1 = ((i - 1 : Nat) : Int) by omega]
      refine ev_pos (by omega) (ev_pos (by omega) ?_)
      rw [rdOf_nat _ xs (i - 1) (by omega)]
      have hh : xs[i - 1] = highOf xs i := by unfold highOf; rw [dif_pos (by omega)]
      rw [hh]
      exact ev_bind hs (ev_some' hfin)
    · refine ev_neg (by omega) ?_
      have hh : (⟨#[]⟩ : ByteArray) = highOf xs i := by unfold highOf; rw [dif_neg (by omega)]
      rw [hh]
      exact ev_bind hs (ev_some' hfin)
  | succ d ih =>
    intro i hi hd
    refine ev_step ?_
    simp only [level_fits.l0]
    refine ev_pos (by omega) (ev_pos (by omega) (ev_pos (by simp; omega) ?_))
    rw [w64_succ (by omega)]
    have e : (List.replicate i (1 : Int) ++ List.replicate (n - i) 0).set (i : Int).toNat 1 = List.replicate (i + 1) 1 ++ List.replicate (n - (i + 1)) 0 := by
      rw [Int.toNat_natCast, List.set_append_right _ _ (by simp), List.length_replicate, Nat.sub_self]
      obtain ⟨m, hm⟩ : ∃ m, n - i = m + 1 := ⟨n - i - 1, by omega⟩
      rw [hm, List.replicate_succ, List.set_cons_zero, show n - (i + 1) = m by omega, List.replicate_succ', List.append_assoc]
      rfl
    rw [e]
    exact ih (i + 1) (by omega) (by omega)
theorem fits_ev {xs : List ByteArray} (hx : Sm xs) (n p : Nat) (h1 : 1 ≤ n) (h2 : n ≤ xs.length + 1) (hp1 : 16 ≤ p) (hp : p ≤ 4096) : Ev (fun k => level_fits.f k xs (n : Int) (p : Int)) (fit p xs n) := by
  have hlen := hx.2
  unfold level_fits.f
  rw [w64 (x := (n : Int) - 1) (by omega) (by omega), show (n : Int) - 1 = ((n - 1 : Nat) : Int) by omega, Int.toNat_natCast, Int.toNat_natCast]
  refine ev_pos (by omega) (ev_pos (by omega) (ev_bind ev_some (ev_pos (by omega) (ev_pos (by omega) ?_))))
  rw [List.length_replicate]
  have := fits_loop hx n p h1 h2 hp1 hp _ 0 (by omega) rfl
  simpa using this
/-- How many kids stand on the first page. -/
def firstN (p : Nat) (xs : List ByteArray) : Nat → Nat → Nat
  | 0, n => n
  | d + 1, n => if fit p xs (n + 1) = true then firstN p xs d (n + 1) else n
def first (p : Nat) (xs : List ByteArray) : Nat := firstN p xs xs.length 1
theorem firstN_ge (p : Nat) (xs : List ByteArray) : ∀ d n, n ≤ firstN p xs d n
  | 0, n => Nat.le_refl _
  | d + 1, n => by
    unfold firstN
    split
    · have := firstN_ge p xs d (n + 1); omega
    · exact Nat.le_refl _
theorem firstN_le (p : Nat) (xs : List ByteArray) : ∀ d n, firstN p xs d n ≤ n + d
  | 0, n => Nat.le_refl _
  | d + 1, n => by
    unfold firstN
    split
    · have := firstN_le p xs d (n + 1); omega
    · omega
theorem first_ge (p : Nat) (xs : List ByteArray) : 1 ≤ first p xs := firstN_ge p xs _ 1
theorem first_le (p : Nat) (xs : List ByteArray) : first p xs ≤ xs.length + 1 := by have := firstN_le p xs xs.length 1; unfold first; omega
theorem firstN_fit (p : Nat) (xs : List ByteArray) : ∀ d n j, n < j → j ≤ firstN p xs d n → fit p xs j = true
  | 0, n, j, h1, h2 => by simp only [firstN] at h2; omega
  | d + 1, n, j, h1, h2 => by
    unfold firstN at h2
    split at h2
    · rename_i hf
      by_cases hj : j = n + 1
      · rw [hj]; exact hf
      · exact firstN_fit p xs d (n + 1) j (by omega) h2
    · omega
theorem firstN_of_fit (p : Nat) (xs : List ByteArray) (m : Nat) : ∀ d n, (∀ j, n < j → j ≤ m → fit p xs j = true) → m ≤ n + d → m ≤ firstN p xs d n
  | 0, n, h1, h2 => h2
  | d + 1, n, h1, h2 => by
    unfold firstN
    by_cases hm : m ≤ n
    · split
      · have := firstN_ge p xs d (n + 1); omega
      · omega
    · rw [if_pos (h1 (n + 1) (by omega) (by omega))]
      exact firstN_of_fit p xs m d (n + 1) (fun j hj hjm => h1 j (by omega) hjm) (by omega)
def grp (p : Nat) : Nat → List ByteArray → List Nat
  | 0, _ => []
  | f + 1, xs => first p xs :: (if xs.length < first p xs then [] else grp p f (xs.drop (first p xs)))
def group (p : Nat) (xs : List ByteArray) : List Nat := grp p (xs.length + 1) xs
theorem grp_fuel (p : Nat) : ∀ (f : Nat) (xs : List ByteArray), xs.length + 1 ≤ f → grp p f xs = grp p (xs.length + 1) xs := by
  intro f
  induction f using Nat.strongRecOn with
  | ind f ih =>
    intro xs hf
    obtain ⟨g, rfl⟩ : ∃ g, f = g + 1 := ⟨f - 1, by omega⟩
    unfold grp
    split
    · rfl
    · rename_i hl
      have h1 := first_ge p xs
      have hd : (xs.drop (first p xs)).length + 1 ≤ xs.length := by rw [List.length_drop]; omega
      rw [ih g (by omega) _ (by omega)]
      by_cases e : xs.length = g
      · rw [e]; rw [ih g (by omega) _ (by omega)]
      · rw [ih xs.length (by omega) _ (by omega)]
theorem group_eq (p : Nat) (xs : List ByteArray) : group p xs = first p xs :: (if xs.length < first p xs then [] else group p (xs.drop (first p xs))) := by
  unfold group
  rw [grp]
  by_cases hl : xs.length < first p xs
  · rw [if_pos hl, if_pos hl]
  · rw [if_neg hl, if_neg hl]
    have h1 := first_ge p xs
    rw [grp_fuel p xs.length _ (by rw [List.length_drop]; omega)]
abbrev ints (l : List Nat) : List Int := l.map (fun x : Nat => (x : Int))
theorem group_l1 {xs : List ByteArray} (hx : Sm xs) (p : Nat) (hp1 : 16 ≤ p) (hp : p ≤ 4096) (acc r : List Int) : ∀ (d n : Nat), 1 ≤ n → n + d = xs.length + 1 →
    Ev (fun k => level_Group.l2 k xs (p : Int) acc (firstN p xs d n : Int)) r → Ev (fun k => level_Group.l1 k xs (p : Int) acc (n : Int)) r := by
  intro d
  have hlen := hx.2
  induction d with
  | zero =>
    intro n h1 hd h
    refine ev_step ?_
    simp only [level_Group.l1]
    exact ev_neg (by omega) h
  | succ d ih =>
    intro n h1 hd h
    refine ev_step ?_
    simp only [level_Group.l1]
    rw [show (n : Int) + 1 = ((n + 1 : Nat) : Int) by omega]
    refine ev_pos (by omega) (ev_pos (by omega) (ev_bind (fits_ev hx (n + 1) p (by omega) (by omega) hp1 hp) ?_))
    unfold firstN at h
    by_cases hf : fit p xs (n + 1) = true
    · rw [if_pos hf] at h
      exact ev_pos hf (ih (n + 1) (by omega) (by omega) h)
    · rw [if_neg hf] at h
      exact ev_neg hf h
theorem group_l0 (p : Nat) (hp1 : 16 ≤ p) (hp : p ≤ 4096) : ∀ (f : Nat) (xs : List ByteArray) (acc : List Int), Sm xs → xs.length < f → acc.length + xs.length ≤ 100000 → Ev (fun k => level_Group.l0 k xs (p : Int) acc) (acc ++ ints (group p xs)) := by
  intro f
  induction f with
  | zero => intro xs acc _ h; omega
  | succ f ih =>
    intro xs acc hx hf ha
    refine ev_step ?_
    simp only [level_Group.l0]
    refine group_l1 hx p hp1 hp acc _ xs.length 1 (Nat.le_refl _) (by omega) (ev_step ?_)
    show Ev (fun k => level_Group.l2 (k + 1) xs (p : Int) acc (first p xs : Int)) _
    simp only [level_Group.l2]
    refine ev_pos (by omega) ?_
    rw [group_eq]
    have h1 := first_ge p xs
    by_cases hl : xs.length < first p xs
    · rw [if_pos hl]
      exact ev_pos (by omega) ev_some
    · rw [if_neg hl]
      refine ev_neg (by omega) ?_
      rw [Int.toNat_natCast]
      refine ev_eq (ih (xs.drop (first p xs)) (acc ++ [(first p xs : Int)]) (hx.drop _) (by rw [List.length_drop]; omega) (by rw [List.length_drop]; simp; omega)) ?_
      simp [ints]
theorem group_ev {xs : List ByteArray} (hx : Sm xs) (p : Nat) (hp1 : 16 ≤ p) (hp : p ≤ 4096) : Ev (fun k => level_Group.f k xs (p : Int)) (ints (group p xs)) := by
  unfold level_Group.f
  have := group_l0 p hp1 hp (xs.length + 1) xs [] hx (by omega) (by have := hx.2; simp; omega)
  simpa using this
/-- All kids, each page one at least. -/
theorem group_all (p : Nat) : ∀ (f : Nat) (xs : List ByteArray), xs.length < f → (∀ x ∈ group p xs, 1 ≤ x) ∧ (group p xs).sum = xs.length + 1 ∧ group p xs ≠ [] := by
  intro f
  induction f with
  | zero => intro xs h; omega
  | succ f ih =>
    intro xs hf
    have h1 := first_ge p xs
    have h2 := first_le p xs
    rw [group_eq]
    by_cases hl : xs.length < first p xs
    · rw [if_pos hl]
      exact ⟨by simpa using h1, by simp; omega, by simp⟩
    · rw [if_neg hl]
      obtain ⟨a, b, c⟩ := ih (xs.drop (first p xs)) (by rw [List.length_drop]; omega)
      refine ⟨fun x hx => ?_, ?_, by simp⟩
      · rcases List.mem_cons.1 hx with rfl | h
        · exact h1
        · exact a x h
      · rw [List.sum_cons, b, List.length_drop]; omega
theorem group_ge (p : Nat) (xs : List ByteArray) : ∀ x ∈ group p xs, 1 ≤ x := (group_all p (xs.length + 1) xs (by omega)).1
theorem group_sum (p : Nat) (xs : List ByteArray) : (group p xs).sum = xs.length + 1 := (group_all p (xs.length + 1) xs (by omega)).2.1
theorem group_ne (p : Nat) (xs : List ByteArray) : group p xs ≠ [] := (group_all p (xs.length + 1) xs (by omega)).2.2
/-- Texts that pages of a size take. -/
def Tiny (p : Nat) (xs : List ByteArray) : Prop := ∀ s ∈ xs, 8 * s.size ≤ p
theorem fit2 {p : Nat} {xs : List ByteArray} (hp : 128 ≤ p) (ht : Tiny p xs) (hn : xs ≠ []) : fit p xs 2 = true := by
  obtain ⟨s, r, rfl⟩ := List.exists_cons_of_ne_nil hn
  have hs := ht s (List.mem_cons_self)
  have hh : 8 * (highOf (s :: r) 2).size ≤ p := by
    unfold highOf
    split
    · exact ht _ (List.getElem_mem _)
    · exact Nat.zero_le _
  unfold fit
  refine decide_eq_true ?_
  show isz 1 [1] [s] (highOf (s :: r) 2) ≤ p - 16
  rw [isz_eq _ _ _ _ rfl]
  have h1 : span ([s].map L) = s.size := by simp [span, spanFrom, L_length]
  have h2 : ((stripped [s]).2.map (·.size)).sum = 0 := by
    have h3 : (stripped [s]).2 = [s.extract (span ([s].map L)) s.size] := rfl
    rw [h3, h1]
    simp [size_extract]
  rw [h1, h2]
  simp only [List.length_cons, List.length_nil]
  omega
theorem first_two {p : Nat} {xs : List ByteArray} (hp : 128 ≤ p) (ht : Tiny p xs) (hn : xs ≠ []) : 2 ≤ first p xs := by
  have : 1 ≤ xs.length := by cases xs with | nil => exact absurd rfl hn | cons _ _ => simp
  exact firstN_of_fit p xs 2 xs.length 1 (fun j h1 h2 => by
    have e : j = 2 := by omega
    rw [e]
    exact fit2 hp ht hn) (by omega)
theorem Tiny.drop {p : Nat} {xs : List ByteArray} (h : Tiny p xs) (n : Nat) : Tiny p (xs.drop n) := fun s hs => h s (List.mem_of_mem_drop hs)
/-- Each page but the last one has two at least. -/
theorem group_two {p : Nat} (hp : 128 ≤ p) : ∀ (f : Nat) (xs : List ByteArray), xs.length < f → Tiny p xs → ∀ i, i + 1 < (group p xs).length → 2 ≤ (group p xs).getD i 0 := by
  intro f
  induction f with
  | zero => intro xs h; omega
  | succ f ih =>
    intro xs hf ht i hi
    have h1 := first_ge p xs
    rw [group_eq] at hi ⊢
    by_cases hl : xs.length < first p xs
    · rw [if_pos hl] at hi
      simp at hi
    · rw [if_neg hl] at hi ⊢
      cases i with
      | zero =>
        refine first_two hp ht (fun e => ?_)
        rw [e] at hl h1
        simp at hl
        omega
      | succ j => exact ih _ (by rw [List.length_drop]; omega) (ht.drop _) j (by simpa using hi)
theorem sum_two : ∀ (l : List Nat), (∀ x ∈ l, 1 ≤ x) → (∀ i, i + 1 < l.length → 2 ≤ l.getD i 0) → 2 * l.length ≤ l.sum + 1
  | [], _, _ => by simp
  | [x], h, _ => by have := h x (by simp); simp; omega
  | x :: y :: r, h, h2 => by
    have a := h2 0 (by simp)
    have b := sum_two (y :: r) (fun z hz => h z (List.mem_cons_of_mem _ hz)) (fun i hi => h2 (i + 1) (by simpa using hi))
    simp at a b ⊢
    omega
theorem group_half {p : Nat} (hp : 128 ≤ p) {xs : List ByteArray} (ht : Tiny p xs) : 2 * (group p xs).length ≤ xs.length + 2 := by
  have := sum_two _ (group_ge p xs) (group_two hp (xs.length + 1) xs (by omega) ht)
  rw [group_sum] at this
  omega
/-! ### Up -/
def upOf (xs : List ByteArray) : Nat → List Nat → List ByteArray
  | _, [] => []
  | _, [_] => []
  | a, n :: m :: r => xs.getD (a + n - 1) ⟨#[]⟩ :: upOf xs (a + n) (m :: r)
theorem upOf_length (xs : List ByteArray) : ∀ (g : List Nat) (a : Nat), (upOf xs a g).length = g.length - 1
  | [], _ => rfl
  | [_], _ => rfl
  | n :: m :: r, a => by
    rw [upOf, List.length_cons, upOf_length xs (m :: r) (a + n)]
    simp
theorem upOf_mem (xs : List ByteArray) : ∀ (g : List Nat) (a : Nat), (∀ x ∈ g, 1 ≤ x) → a + g.sum ≤ xs.length + 1 → ∀ s ∈ upOf xs a g, s ∈ xs
  | [], _, _, _ => by simp [upOf]
  | [_], _, _, _ => by simp [upOf]
  | n :: m :: r, a, h, hs => by
    intro s hm
    rw [upOf] at hm
    have hn := h n (List.mem_cons_self)
    have hm1 := h m (by simp)
    simp only [List.sum_cons] at hs
    rcases List.mem_cons.1 hm with rfl | hm
    · have hi : a + n - 1 < xs.length := by omega
      rw [getD_get _ _ _ hi]
      exact List.getElem_mem hi
    · exact upOf_mem xs (m :: r) (a + n) (fun z hz => h z (List.mem_cons_of_mem _ hz)) (by simp only [List.sum_cons]; omega) s hm
theorem ints_length (g : List Nat) : (ints g).length = g.length := by simp [ints]
theorem rd_ints (g : List Nat) (i : Nat) (h : i < g.length) : rd (ints g) (i : Int) = (g[i] : Int) := by
  rw [rd_nat _ i (by simpa [ints] using h)]
  simp [ints]
theorem sum_drop_le : ∀ (g : List Nat) (i : Nat), (g.drop i).sum ≤ g.sum
  | [], i => by simp
  | x :: g, 0 => by simp
  | x :: g, i + 1 => by have := sum_drop_le g i; simp; omega
theorem up_loop (xs : List ByteArray) (hx : xs.length ≤ 1000) (g : List Nat) (hg : ∀ x ∈ g, 1 ≤ x) (hgl : g.length ≤ 2000) : ∀ (d i a : Nat) (acc : List ByteArray), i ≤ g.length → g.length - i = d → a + (g.drop i).sum = xs.length + 1 → acc.length + d ≤ 10000 →
    Ev (fun k => level_Up.l0 k xs acc (a : Int) (ints g) (g.length : Int) (i : Int)) (acc ++ upOf xs a (g.drop i)) := by
  intro d
  induction d with
  | zero =>
    intro i a acc h1 hd hs ha
    refine ev_step ?_
    simp only [level_Up.l0]
    rw [List.drop_of_length_le (by omega)]
    exact ev_neg (by omega) (ev_some' (by simp [upOf]))
  | succ d ih =>
    intro i a acc h1 hd hs ha
    have hi : i < g.length := by omega
    have hgi := hg _ (List.getElem_mem hi)
    have e := List.drop_eq_getElem_cons hi
    rw [e, List.sum_cons] at hs
    refine ev_step ?_
    simp only [level_Up.l0, ints_length]
    rw [rd_ints g i hi, w64 (x := (a : Int) + _) (by omega) (by omega), w64_succ (by omega), show (a : Int) + (g[i] : Int) = ((a + g[i] : Nat) : Int) by omega]
    refine ev_pos (by omega) (ev_pos (by omega) (ev_pos (by omega) ?_))
    rw [e]
    by_cases hl : i + 1 < g.length
    · have e2 := List.drop_eq_getElem_cons hl
      have h2 := hg _ (List.getElem_mem hl)
      rw [e2, List.sum_cons] at hs
      refine ev_pos (by omega) ?_
      rw [w64 (x := ((a + g[i] : Nat) : Int) - 1) (by omega) (by omega), show ((a + g[i] : Nat) : Int) - 1 = ((a + g[i] - 1 : Nat) : Int) by omega]
      refine ev_pos (by omega) (ev_pos (by omega) (ev_pos (by omega) ?_))
      rw [rdOf_nat _ xs _ (by omega)]
      have hrec := ih (i + 1) (a + g[i]) (acc ++ [xs[a + g[i] - 1]'(by omega)]) (by omega) (by omega) (by rw [e2, List.sum_cons]; omega) (by simp; omega)
      refine ev_eq hrec ?_
      rw [e2, upOf, getD_get _ _ _ (show a + g[i] - 1 < xs.length by omega), List.append_assoc]
      rfl
    · have e2 : g.drop (i + 1) = [] := List.drop_of_length_le (by omega)
      rw [e2, List.sum_nil] at hs
      refine ev_neg (by omega) ?_
      have hrec := ih (i + 1) (a + g[i]) acc (by omega) (by omega) (by rw [e2, List.sum_nil]; omega) (by omega)
      refine ev_eq hrec ?_
      rw [e2]
      simp [upOf]
theorem up_ev (xs : List ByteArray) (hx : xs.length ≤ 1000) (g : List Nat) (hg : ∀ x ∈ g, 1 ≤ x) (hgl : g.length ≤ 2000) (hs : g.sum = xs.length + 1) : Ev (fun k => level_Up.f k xs (ints g)) (upOf xs 0 g) := by
  unfold level_Up.f
  rw [ints_length]
  have := up_loop xs hx g hg hgl _ 0 0 [] (Nat.zero_le _) rfl (by simpa using hs) (by simp; omega)
  simpa using this
/-! ### Down -/
def downOf : List ByteArray → List Nat → List (List ByteArray)
  | _, [] => []
  | xs, n :: r => xs.take (n - 1) :: downOf (xs.drop n) r
theorem downOf_length : ∀ (g : List Nat) (xs : List ByteArray), (downOf xs g).length = g.length
  | [], _ => rfl
  | n :: r, xs => by rw [downOf, List.length_cons, downOf_length r, List.length_cons]
theorem down_loop (g : List Nat) (hg : ∀ x ∈ g, 1 ≤ x) (hgl : g.length ≤ 2000) : ∀ (d i : Nat) (xs : List ByteArray) (acc : List (List ByteArray)), xs.length ≤ 1000 → i ≤ g.length → g.length - i = d → (g.drop i = [] ∨ (g.drop i).sum = xs.length + 1) → acc.length + d ≤ 10000 →
    Ev (fun k => level_Down.l0 k xs acc (ints g) (g.length : Int) (i : Int)) (acc ++ downOf xs (g.drop i)) := by
  intro d
  induction d with
  | zero =>
    intro i xs acc hx h1 hd hs ha
    refine ev_step ?_
    simp only [level_Down.l0]
    rw [show g.drop i = [] from List.drop_of_length_le (by omega)]
    exact ev_neg (by omega) (ev_some' (by simp [downOf]))
  | succ d ih =>
    intro i xs acc hx h1 hd hs ha
    have hi : i < g.length := by omega
    have hgi := hg _ (List.getElem_mem hi)
    have e := List.drop_eq_getElem_cons hi
    have hs : (g.drop i).sum = xs.length + 1 := by
      rcases hs with hs | hs
      · rw [e] at hs; cases hs
      · exact hs
    rw [e, List.sum_cons] at hs
    refine ev_step ?_
    simp only [level_Down.l0, ints_length]
    rw [rd_ints g i hi, w64 (x := (g[i] : Int) - 1) (by omega) (by omega), w64_succ (by omega), show (g[i] : Int) - 1 = ((g[i] - 1 : Nat) : Int) by omega, Int.toNat_natCast, mn_eq]
    have htl : (xs.take (g[i] - 1)).length ≤ 1000 := by rw [List.length_take]; omega
    refine ev_pos (by omega) (ev_pos (by omega) (ev_pos (by omega) (ev_pos (by omega) (ev_pos (by omega) (ev_bind ev_some (ev_pos (by simp; omega) (ev_pos (by omega) (ev_pos (by omega) (ev_pos (by omega) ?_)))))))))
    have hm : (min (g[i] : Int) (xs.length : Int)).toNat = min g[i] xs.length := by omega
    have hd2 : xs.drop (min g[i] xs.length) = xs.drop g[i] := by
      by_cases q : g[i] ≤ xs.length
      · rw [Nat.min_eq_left q]
      · rw [List.drop_of_length_le (by omega), List.drop_of_length_le (by omega)]
    rw [hm, hd2, List.nil_append]
    have hrec := ih (i + 1) (xs.drop g[i]) (acc ++ [xs.take (g[i] - 1)]) (by rw [List.length_drop]; omega) (by omega) (by omega) (by
      by_cases hl : i + 1 < g.length
      · right
        have e2 := List.drop_eq_getElem_cons hl
        have h2 := hg _ (List.getElem_mem hl)
        rw [e2, List.sum_cons] at hs
        rw [e2, List.sum_cons, List.length_drop]
        omega
      · left; exact List.drop_of_length_le (by omega)) (by simp; omega)
    refine ev_eq hrec ?_
    rw [e, downOf, List.append_assoc]
    rfl
theorem down_ev (xs : List ByteArray) (hx : xs.length ≤ 1000) (g : List Nat) (hg : ∀ x ∈ g, 1 ≤ x) (hgl : g.length ≤ 2000) (hs : g.sum = xs.length + 1) : Ev (fun k => level_Down.f k xs (ints g)) (downOf xs g) := by
  unfold level_Down.f
  rw [ints_length]
  have := down_loop g hg hgl _ 0 xs [] hx (Nat.zero_le _) rfl (.inr (by simpa using hs)) (by simp; omega)
  simpa using this
/-! ### Heights -/
def hts (p : Nat) : Nat → List ByteArray → List (List Nat)
  | 0, _ => []
  | f + 1, xs => if xs = [] then [] else group p xs :: hts p f (upOf xs 0 (group p xs))
abbrev intss (l : List (List Nat)) : List (List Int) := l.map ints
theorem group_len {p : Nat} (hp : 128 ≤ p) {xs : List ByteArray} (ht : Tiny p xs) : (group p xs).length ≤ xs.length + 1 := by
  have h1 := group_half hp ht
  omega
theorem up_tiny {p : Nat} {xs : List ByteArray} (ht : Tiny p xs) : Tiny p (upOf xs 0 (group p xs)) := fun s hs => ht s (upOf_mem xs _ 0 (group_ge p xs) (by rw [group_sum]; omega) s hs)
theorem up_sm {p : Nat} (hp : 128 ≤ p) {xs : List ByteArray} (ht : Tiny p xs) (hx : Sm xs) : Sm (upOf xs 0 (group p xs)) := ⟨fun s hs => hx.1 s (upOf_mem xs _ 0 (group_ge p xs) (by rw [group_sum]; omega) s hs), by
  rw [upOf_length]
  have := group_len hp ht
  have := hx.2
  omega⟩
theorem up_less {p : Nat} (hp : 128 ≤ p) {xs : List ByteArray} (ht : Tiny p xs) (hn : xs ≠ []) : 2 * (upOf xs 0 (group p xs)).length ≤ xs.length := by
  rw [upOf_length]
  have := group_half hp ht
  omega
theorem heights_loop (p : Nat) (hp1 : 128 ≤ p) (hp : p ≤ 4096) : ∀ (f : Nat) (xs : List ByteArray) (acc : List (List Int)), Sm xs → Tiny p xs → xs.length ≤ f → acc.length + xs.length ≤ 10000 → Ev (fun k => level_Heights.l0 k xs (p : Int) acc) (acc ++ intss (hts p f xs)) := by
  intro f
  induction f with
  | zero =>
    intro xs acc hx ht hf ha
    obtain rfl : xs = [] := List.eq_nil_of_length_eq_zero (by omega)
    refine ev_step ?_
    simp only [level_Heights.l0]
    exact ev_pos rfl (ev_some' (by simp [hts]))
  | succ f ih =>
    intro xs acc hx ht hf ha
    refine ev_step ?_
    simp only [level_Heights.l0]
    by_cases hn : xs = []
    · subst hn
      exact ev_pos rfl (ev_some' (by simp [hts]))
    · have hpos : 0 < xs.length := List.length_pos_iff.2 hn
      have hl := up_less hp1 ht hn
      have hgl := group_len hp1 ht
      have hx2 := hx.2
      refine ev_neg (by omega) (ev_bind (group_ev hx p (by omega) hp) (ev_pos (by omega) (ev_bind (up_ev xs hx.2 _ (group_ge p xs) (by omega) (group_sum p xs)) ?_)))
      refine ev_eq (ih _ (acc ++ [ints (group p xs)]) (up_sm hp1 ht hx) (up_tiny ht) (by omega) (by simp; omega)) ?_
      rw [hts, if_neg hn, List.append_assoc]
      rfl
theorem heights_ev (p : Nat) (hp1 : 128 ≤ p) (hp : p ≤ 4096) {xs : List ByteArray} (hx : Sm xs) (ht : Tiny p xs) : Ev (fun k => level_Heights.f k xs (p : Int)) (intss (hts p xs.length xs)) := by
  unfold level_Heights.f
  have := heights_loop p hp1 hp xs.length xs [] hx ht (Nat.le_refl _) (by have := hx.2; simp; omega)
  simpa using this
end Go.Proofs.Ytfialmegikegbaa.Spec
