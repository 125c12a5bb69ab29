/- What is proved here: what the reference's printed functions of level answer, in the same plain words. Conditions: at most 1000 texts of at most 128 bytes; page sizes of 128 to 4096. -/
import Derived.Test.YtfialmegikegbaaPS
import Derived.Test.YtfialmegikegbaaLevel3
import Derived.Test.YtfialmegikegbaaRInner
set_option linter.unusedVariables false
set_option linter.unusedSimpArgs false
namespace Go.Proofs.Ytfialmegikegbaa.Spec
open Go.RowKit Go.Proofs.YtfialmegikegbaaW.PrintWords Go.Proofs.YtfialmegikegbaaW.PrintLast Go.Proofs.YtfialmegikegbaaW.PrintMore Go.Proofs.YtfialmegikegbaaEv Go.Proofs.YtfialmegikegbaaMath Go.Proofs.YtfialmegikegbaaSlot Go.Proofs.Ytfialmegikegbaa.P Go.Proofs.YtfialmegikegbaaW.Abbr

theorem rsizeOk (p : Int) : withyref06_Size.f p = some (sizeOk p) := by
  unfold withyref06_Size.f sizeOk
  by_cases h1 : p = 128
  · simp [h1]
  · by_cases h2 : p = 256
    · simp [h2]
    · by_cases h3 : p = 512
      · simp [h3]
      · rw [if_neg h1, if_neg h2, if_neg h3]
        simp [h1, h2, h3]
        rfl
theorem rright_loop (xs : List ByteArray) (p : Int) (hl : xs.length ≤ 140737488351232) : ∀ (d i : Nat), i ≤ xs.length → xs.length - i = d →
    Ev (fun k => withyref17_Right.l0 k xs p (i : Int)) (rightL (wrap64 (Int.tdiv p 8)) (lastOf [] (xs.take i)) (xs.drop i) && sizeOk p) := by
  intro d
  induction d with
  | zero =>
    intro i h1 hd
    refine ev_step ?_
    simp only [withyref17_Right.l0]
    refine ev_neg (by omega) (ev_bind_now (rsizeOk p) (ev_some' ?_))
    rw [List.drop_of_length_le (by omega)]
    simp [rightL]
  | succ d ih =>
    intro i h1 hd
    have hi : i < xs.length := by omega
    refine ev_step ?_
    simp only [withyref17_Right.l0, L_toList]
    rw [rdOf_nat _ xs i hi, List.drop_eq_getElem_cons hi]
    simp only [rightL]
    have hrec := ih (i + 1) (by omega) (by omega)
    have hlast1 : lastOf [] (xs.take (i + 1)) = L xs[i] := by
      rw [lastOf_get _ _ (by rw [List.length_take]; omega)]
      have : (xs.take (i + 1)).length - 1 = i := by rw [List.length_take]; omega
      congr 1
      rw [List.getElem_take]
      congr 1
    rw [hlast1] at hrec
    rw [← w64_succ (i := i) (by omega)] at hrec
    refine ev_pos (by omega) (ev_pos (by omega) ?_)
    by_cases h3 : L xs[i] = []
    · refine ev_pos h3 (ev_some' ?_)
      rw [h3, lt_nil]
      simp
    · refine ev_neg h3 ?_
      by_cases h4 : (xs[i].size : Int) > wrap64 (Int.tdiv p 8)
      · refine ev_pos h4 (ev_some' ?_)
        rw [decide_eq_false (show ¬ (xs[i].size : Int) ≤ wrap64 (Int.tdiv p 8) by omega)]
        simp
      · refine ev_neg h4 ?_
        rw [decide_eq_true (show (xs[i].size : Int) ≤ wrap64 (Int.tdiv p 8) by omega)]
        cases i with
        | zero =>
          refine ev_neg (by omega) (ev_eq hrec ?_)
          have : lt [] (L xs[0]) = true := (lt_nil_iff _).2 h3
          simp [lastOf, this]
        | succ j =>
          refine ev_pos (by omega) ?_
          rw [w64 (x := ((j + 1 : Nat) : Int) - 1) (by omega) (by omega), show ((j + 1 : Nat) : Int) - 1 = (j : Int) by omega]
          refine ev_pos (by omega) (ev_pos (by omega) ?_)
          rw [rdOf_nat _ xs j (by omega)]
          have hlast : lastOf [] (xs.take (j + 1)) = L xs[j] := by
            rw [lastOf_get _ _ (by rw [List.length_take]; omega)]
            have : (xs.take (j + 1)).length - 1 = j := by rw [List.length_take]; omega
            congr 1
            rw [List.getElem_take]
            congr 1
          rw [hlast]
          by_cases h5 : lt (L xs[j]) (L xs[j + 1]) = true
          · refine ev_pos h5 (ev_eq hrec ?_)
            rw [h5]
            simp
          · refine ev_neg h5 (ev_some' ?_)
            rw [show lt (L xs[j]) (L xs[j + 1]) = false by simpa using h5]
            simp
theorem rright_ev (xs : List ByteArray) (p : Int) (hl : xs.length ≤ 140737488351232) : Ev (fun k => withyref17_Right.f k xs p) (rightL (wrap64 (Int.tdiv p 8)) [] xs && sizeOk p) := by
  unfold withyref17_Right.f
  exact rright_loop xs p hl _ 0 (Nat.zero_le _) rfl
theorem highOf_drop (xs : List ByteArray) (a n : Nat) (h1 : 1 ≤ n) : highOf (xs.drop a) n = if h : a + n - 1 < xs.length then xs[a + n - 1] else ⟨#[]⟩ := by
  unfold highOf
  by_cases h : n - 1 < (xs.drop a).length
  · rw [dif_pos h]
    rw [List.length_drop] at h
    rw [dif_pos (by omega), List.getElem_drop]
    congr 1
    omega
  · rw [dif_neg h]
    rw [List.length_drop] at h
    rw [dif_neg (by omega)]
theorem room_loop {xs : List ByteArray} (hx : Sm xs) (a n p : Nat) (h1 : 1 ≤ n) (h2 : a + n ≤ xs.length + 1) (hp1 : 16 ≤ p) (hp : p ≤ 4096) : ∀ (d i : Nat), i ≤ n → n - i = d →
    Ev (fun k => withyref17_Room.l0 k xs (a : Int) (n : Int) (p : Int) (i : Int) 0 0 0 (⟨#[]⟩ : ByteArray) (List.replicate i 1) ((xs.drop a).take (n - 1))) (fit p (xs.drop a) n) := by
  intro d
  have hlen := hx.2
  have htl : ((xs.drop a).take (n - 1)).length = n - 1 := by rw [List.length_take, List.length_drop]; omega
  induction d with
  | zero =>
    intro i hi hd
    obtain rfl : i = n := by omega
    refine ev_step ?_
    simp only [withyref17_Room.l0]
    refine ev_neg (by omega) ?_
    rw [ones i h1]
    have hs := rsize_of 1 (List.replicate (i - 1) 1) ((xs.drop a).take (i - 1)) (highOf (xs.drop a) i) (by rw [htl, List.length_replicate]) (ones_mem _) ((hx.drop a).take _).1 ((hx.drop a).high i) (by omega) 0 0 0
    have hfin : decide ((isz 1 (List.replicate (i - 1) 1) ((xs.drop a).take (i - 1)) (highOf (xs.drop a) i) : Int) ≤ wrap64 ((p : Int) - 16)) = fit p (xs.drop a) i := by
      rw [w64 (by omega) (by omega)]
      unfold fit
      by_cases q : isz 1 (List.replicate (i - 1) 1) ((xs.drop a).take (i - 1)) (highOf (xs.drop a) i) ≤ p - 16
      · rw [decide_eq_true q]; exact decide_eq_true (by omega)
      · rw [decide_eq_false q]; exact decide_eq_false (by omega)
    have hh := highOf_drop xs a i h1
    rw [w64 (x := (a : Int) + (i : Int)) (by omega) (by omega)]
    by_cases hle : a + i ≤ xs.length
    · refine ev_pos (by omega) ?_
      rw [w64 (x := (a : Int) + (i : Int) - 1) (by omega) (by omega), show (a : Int) + (i : Int) - 1 = ((a + i - 1 : Nat) : Int) by omega]
      refine ev_pos (by omega) (ev_pos (by omega) ?_)
      rw [rdOf_nat _ xs (a + i - 1) (by omega)]
      rw [dif_pos (by omega)] at hh
      rw [← hh]
      exact ev_bind hs (ev_some' hfin)
    · refine ev_neg (by omega) ?_
      rw [dif_neg (by omega)] at hh
      rw [← hh]
      exact ev_bind hs (ev_some' hfin)
  | succ d ih =>
    intro i hi hd
    refine ev_step ?_
    simp only [withyref17_Room.l0]
    refine ev_pos (by omega) (ev_pos (by simp; omega) ?_)
    rw [w64_succ (by omega)]
    have e : List.replicate i (1 : Int) ++ [1] = List.replicate (i + 1) 1 := by rw [List.replicate_succ']
    rw [e]
    exact ih (i + 1) (by omega) (by omega)
theorem room_ev {xs : List ByteArray} (hx : Sm xs) (a n p : Nat) (h1 : 1 ≤ n) (h2 : a + n ≤ xs.length + 1) (hp1 : 16 ≤ p) (hp : p ≤ 4096) : Ev (fun k => withyref17_Room.f k xs (a : Int) (n : Int) (p : Int)) (fit p (xs.drop a) n) := by
  have hlen := hx.2
  unfold withyref17_Room.f
  rw [w64 (x := (a : Int) + (n : Int)) (by omega) (by omega), w64 (x := (a : Int) + (n : Int) - 1) (by omega) (by omega), show (a : Int) + (n : Int) - 1 = ((a + n - 1 : Nat) : Int) by omega, Int.toNat_natCast, Int.toNat_natCast]
  have e : (xs.take (a + n - 1)).drop a = (xs.drop a).take (n - 1) := by
    rw [List.drop_take]
    congr 1
    omega
  rw [e]
  have hl : ((xs.drop a).take (n - 1)).length ≤ 1000 := by rw [List.length_take, List.length_drop]; omega
  refine ev_bind ev_some (ev_pos (by omega) (ev_pos (by omega) (ev_pos (by omega) (ev_pos (by simp; omega) ?_))))
  rw [List.nil_append]
  exact room_loop hx a n p h1 h2 hp1 hp _ 0 (by omega) rfl
theorem rgroup_l1 {xs : List ByteArray} (hx : Sm xs) (p : Nat) (hp1 : 16 ≤ p) (hp : p ≤ 4096) (a : Nat) (acc r : List Int) (hacc : acc.length < 17592186044416) : ∀ (d n : Nat), 1 ≤ n → a + n + d = xs.length + 1 →
    Ev (fun k => withyref17_Group.l0 k xs (p : Int) (acc ++ [((firstN p (xs.drop a) d n : Nat) : Int)]) ((a + firstN p (xs.drop a) d n : Nat) : Int)) r → Ev (fun k => withyref17_Group.l1 k xs (p : Int) acc (a : Int) (n : Int)) r := by
  intro d
  have hlen := hx.2
  induction d with
  | zero =>
    intro n h1 hd h
    refine ev_step ?_
    simp only [withyref17_Group.l1]
    rw [w64 (x := (a : Int) + (n : Int)) (by omega) (by omega)]
    exact ev_neg (by omega) (ev_pos hacc (by simpa [firstN] using h))
  | succ d ih =>
    intro n h1 hd h
    refine ev_step ?_
    simp only [withyref17_Group.l1]
    rw [w64 (x := (a : Int) + (n : Int)) (by omega) (by omega), w64_succ (by omega)]
    refine ev_pos (by omega) (ev_bind (room_ev hx a (n + 1) p (by omega) (by omega) hp1 hp) ?_)
    unfold firstN at h
    by_cases hf : fit p (xs.drop a) (n + 1) = true
    · rw [if_pos hf] at h
      exact ev_pos hf (ih (n + 1) (by omega) (by omega) h)
    · rw [if_neg hf] at h
      exact ev_neg hf (ev_pos hacc (by simpa using h))
theorem rgroup_l0 {xs : List ByteArray} (hx : Sm xs) (p : Nat) (hp1 : 16 ≤ p) (hp : p ≤ 4096) : ∀ (f a : Nat) (acc : List Int), a ≤ xs.length → xs.length - a < f → acc.length + (xs.length - a) ≤ 100000 → Ev (fun k => withyref17_Group.l0 k xs (p : Int) acc (a : Int)) (acc ++ ints (group p (xs.drop a))) := by
  intro f
  have hlen := hx.2
  induction f with
  | zero => intro a acc h1 h2; omega
  | succ f ih =>
    intro a acc h1 h2 ha
    refine ev_step ?_
    simp only [withyref17_Group.l0]
    have hdl : (xs.drop a).length = xs.length - a := List.length_drop
    refine ev_pos (by omega) (rgroup_l1 hx p hp1 hp a acc _ (by omega) (xs.length - a) 1 (Nat.le_refl _) (by omega) ?_)
    have hfst : firstN p (xs.drop a) (xs.length - a) 1 = first p (xs.drop a) := by unfold first; rw [hdl]
    rw [hfst, group_eq]
    have hg1 := first_ge p (xs.drop a)
    have hg2 := first_le p (xs.drop a)
    by_cases hl : (xs.drop a).length < first p (xs.drop a)
    · rw [if_pos hl]
      refine ev_step ?_
      simp only [withyref17_Group.l0]
      exact ev_neg (by omega) (ev_some' (by simp [ints]))
    · rw [if_neg hl]
      refine ev_eq (ih (a + first p (xs.drop a)) (acc ++ [(first p (xs.drop a) : Int)]) (by omega) (by omega) (by simp; omega)) ?_
      rw [List.drop_drop]
      simp [ints]
theorem rgroup_ev {xs : List ByteArray} (hx : Sm xs) (p : Nat) (hp1 : 16 ≤ p) (hp : p ≤ 4096) : Ev (fun k => withyref17_Group.f k xs (p : Int)) (ints (group p xs)) := by
  unfold withyref17_Group.f
  have := rgroup_l0 hx p hp1 hp (xs.length + 1) 0 [] (Nat.zero_le _) (by omega) (by have := hx.2; simp; omega)
  simpa using this
theorem rup_loop (xs : List ByteArray) (hx : xs.length ≤ 1000) (g : List Nat) (hg : ∀ x ∈ g, 1 ≤ x) (hgl : g.length ≤ 2000) : ∀ (d i a : Nat) (acc : List ByteArray), i ≤ g.length → g.length - i = d → a + (g.drop i).sum = xs.length + 1 → acc.length + d ≤ 10000 →
    Ev (fun k => withyref17_Up.l0 k xs (ints g) acc (a : Int) (i : Int)) (acc ++ upOf xs a (g.drop i)) := by
  intro d
  induction d with
  | zero =>
    intro i a acc h1 hd hs ha
    refine ev_step ?_
    simp only [withyref17_Up.l0, ints_length]
    rw [w64_succ (by omega), show g.drop i = [] from List.drop_of_length_le (by omega)]
    exact ev_neg (by omega) (ev_some' (by simp [upOf]))
  | succ d ih =>
    intro i a acc h1 hd hs ha
    have hi : i < g.length := by omega
    have hgi := hg _ (List.getElem_mem hi)
    have e := List.drop_eq_getElem_cons hi
    rw [e, List.sum_cons] at hs
    refine ev_step ?_
    simp only [withyref17_Up.l0, ints_length]
    rw [w64_succ (by omega), e]
    by_cases hl : i + 1 < g.length
    · have e2 := List.drop_eq_getElem_cons hl
      have h2 := hg _ (List.getElem_mem hl)
      rw [e2, List.sum_cons] at hs
      rw [rd_ints g i hi, w64 (x := (a : Int) + _) (by omega) (by omega), show (a : Int) + (g[i] : Int) = ((a + g[i] : Nat) : Int) by omega]
      rw [w64 (x := ((a + g[i] : Nat) : Int) - 1) (by omega) (by omega), show ((a + g[i] : Nat) : Int) - 1 = ((a + g[i] - 1 : Nat) : Int) by omega]
      refine ev_pos (by omega) (ev_pos (by omega) (ev_pos (by omega) (ev_pos (by omega) (ev_pos (by omega) (ev_pos (by omega) ?_)))))
      rw [rdOf_nat _ xs _ (by omega)]
      have hrec := ih (i + 1) (a + g[i]) (acc ++ [xs[a + g[i] - 1]'(by omega)]) (by omega) (by omega) (by rw [e2, List.sum_cons]; omega) (by simp; omega)
      refine ev_eq hrec ?_
      rw [e2, upOf, getD_get _ _ _ (show a + g[i] - 1 < xs.length by omega), List.append_assoc]
      rfl
    · have e2 : g.drop (i + 1) = [] := List.drop_of_length_le (by omega)
      rw [e2]
      exact ev_neg (by omega) (ev_some' (by simp [upOf]))
theorem rup_ev (xs : List ByteArray) (hx : xs.length ≤ 1000) (g : List Nat) (hg : ∀ x ∈ g, 1 ≤ x) (hgl : g.length ≤ 2000) (hs : g.sum = xs.length + 1) : Ev (fun k => withyref17_Up.f k xs (ints g)) (upOf xs 0 g) := by
  unfold withyref17_Up.f
  have := rup_loop xs hx g hg hgl _ 0 0 [] (Nat.zero_le _) rfl (by simpa using hs) (by simp; omega)
  simpa using this
theorem rdown_loop (xs : List ByteArray) (hx : xs.length ≤ 1000) (g : List Nat) (hg : ∀ x ∈ g, 1 ≤ x) (hgl : g.length ≤ 2000) : ∀ (d i a : Nat) (acc : List (List ByteArray)), i ≤ g.length → g.length - i = d → a + (g.drop i).sum = xs.length + 1 → acc.length + d ≤ 10000 →
    Ev (fun k => withyref17_Down.l0 k xs (ints g) acc (a : Int) (i : Int)) (acc ++ downOf (xs.drop a) (g.drop i)) := by
  intro d
  induction d with
  | zero =>
    intro i a acc h1 hd hs ha
    refine ev_step ?_
    simp only [withyref17_Down.l0, ints_length]
    rw [show g.drop i = [] from List.drop_of_length_le (by omega)]
    exact ev_neg (by omega) (ev_some' (by simp [downOf]))
  | succ d ih =>
    intro i a acc h1 hd hs ha
    have hi : i < g.length := by omega
    have hgi := hg _ (List.getElem_mem hi)
    have e := List.drop_eq_getElem_cons hi
    rw [e, List.sum_cons] at hs
    refine ev_step ?_
    simp only [withyref17_Down.l0, ints_length]
    rw [rd_ints g i hi, w64 (x := (a : Int) + _) (by omega) (by omega), show (a : Int) + (g[i] : Int) = ((a + g[i] : Nat) : Int) by omega]
    rw [w64 (x := ((a + g[i] : Nat) : Int) - 1) (by omega) (by omega), show ((a + g[i] : Nat) : Int) - 1 = ((a + g[i] - 1 : Nat) : Int) by omega, w64_succ (by omega), Int.toNat_natCast, Int.toNat_natCast]
    have et : (xs.take (a + g[i] - 1)).drop a = (xs.drop a).take (g[i] - 1) := by
      rw [List.drop_take]
      congr 1
      omega
    rw [et]
    have htl : ((xs.drop a).take (g[i] - 1)).length ≤ 1000 := by rw [List.length_take, List.length_drop]; omega
    refine ev_pos (by omega) (ev_bind ev_some (ev_pos (by omega) (ev_pos (by omega) (ev_pos (by omega) (ev_pos (by omega) (ev_pos (by simp; omega) (ev_pos (by omega) ?_)))))))
    rw [List.nil_append]
    have hrec := ih (i + 1) (a + g[i]) (acc ++ [(xs.drop a).take (g[i] - 1)]) (by omega) (by omega) (by omega) (by simp; omega)
    refine ev_eq hrec ?_
    rw [e, downOf, List.drop_drop, List.append_assoc]
    rfl
theorem rdown_ev (xs : List ByteArray) (hx : xs.length ≤ 1000) (g : List Nat) (hg : ∀ x ∈ g, 1 ≤ x) (hgl : g.length ≤ 2000) (hs : g.sum = xs.length + 1) : Ev (fun k => withyref17_Down.f k xs (ints g)) (downOf xs g) := by
  unfold withyref17_Down.f
  have := rdown_loop xs hx g hg hgl _ 0 0 [] (Nat.zero_le _) rfl (by simpa using hs) (by simp; omega)
  simpa using this
theorem rheights_loop (p : Nat) (hp1 : 128 ≤ p) (hp : p ≤ 4096) : ∀ (f : Nat) (xs : List ByteArray) (acc : List (List Int)), Sm xs → Tiny p xs → xs.length ≤ f → acc.length + xs.length ≤ 10000 → Ev (fun k => withyref17_Heights.l0 k xs (p : Int) acc) (acc ++ intss (hts p f xs)) := by
  intro f
  induction f with
  | zero =>
    intro xs acc hx ht hf ha
    obtain rfl : xs = [] := List.eq_nil_of_length_eq_zero (by omega)
    refine ev_step ?_
    simp only [withyref17_Heights.l0]
    exact ev_neg (by simp) (ev_some' (by simp [hts]))
  | succ f ih =>
    intro xs acc hx ht hf ha
    refine ev_step ?_
    simp only [withyref17_Heights.l0]
    by_cases hn : xs = []
    · subst hn
      exact ev_neg (by simp) (ev_some' (by simp [hts]))
    · have hpos : 0 < xs.length := List.length_pos_iff.2 hn
      have hl := up_less hp1 ht hn
      have hgl := group_len hp1 ht
      have hx2 := hx.2
      refine ev_pos (by omega) (ev_bind (rgroup_ev hx p (by omega) hp) (ev_pos (by omega) (ev_bind (rup_ev xs hx.2 _ (group_ge p xs) (by omega) (group_sum p xs)) ?_)))
      refine ev_eq (ih _ (acc ++ [ints (group p xs)]) (up_sm hp1 ht hx) (up_tiny ht) (by omega) (by simp; omega)) ?_
      rw [hts, if_neg hn, List.append_assoc]
      rfl
theorem rheights_ev (p : Nat) (hp1 : 128 ≤ p) (hp : p ≤ 4096) {xs : List ByteArray} (hx : Sm xs) (ht : Tiny p xs) : Ev (fun k => withyref17_Heights.f k xs (p : Int)) (intss (hts p xs.length xs)) := by
  unfold withyref17_Heights.f
  have := rheights_loop p hp1 hp xs.length xs [] hx ht (Nat.le_refl _) (by have := hx.2; simp; omega)
  simpa using this
end Go.Proofs.Ytfialmegikegbaa.Spec
