/- What is proved here: the pure statement of LevelRoom: each page has room for its kids, and with the next kid it would not have had. Conditions: sizes within the form's reach. -/
import Derived.Test.YtfialmegikegbaaStmtLevelRoom
import Derived.Test.YtfialmegikegbaaLevel3
import Derived.Test.YtfialmegikegbaaEnc
set_option linter.unusedVariables false
set_option linter.unusedSimpArgs false
namespace Go.Proofs.Ytfialmegikegbaa.Pure
open Go.RowKit Go.Proofs.YtfialmegikegbaaW.PrintWords Go.Proofs.YtfialmegikegbaaW.PrintLast Go.Proofs.YtfialmegikegbaaW.PrintMore Go.Proofs.YtfialmegikegbaaEv Go.Proofs.YtfialmegikegbaaMath Go.Proofs.YtfialmegikegbaaSlot Go.Proofs.Ytfialmegikegbaa.P Go.Proofs.Ytfialmegikegbaa.Spec

theorem rises_pw {q : Int} : ∀ (l : List ByteArray) (a : List UInt8), rightL q a l = true → (∀ s ∈ l, lt a (L s) = true) ∧ l.Pairwise (fun x y => lt (L x) (L y) = true)
  | [], a, _ => ⟨fun s hs => (by cases hs), List.Pairwise.nil⟩
  | x :: l, a, h => by
    simp only [rightL, Bool.and_eq_true, decide_eq_true_eq] at h
    obtain ⟨h1, h2⟩ := rises_pw l (L x) h.2.2
    refine ⟨fun s hs => ?_, List.Pairwise.cons h1 h2⟩
    rcases List.mem_cons.1 hs with rfl | hs
    · exact h.1
    · exact lt_trans h.1 (h1 s hs)
theorem seps_of_pw {r : Int} {h : List UInt8} {q : Int} : ∀ (l : List ByteArray) (a : List UInt8), (∀ s ∈ l, lt a (L s) = true ∧ (s.size : Int) ≤ q ∧ (r = 0 ∨ lt (L s) h = true)) → l.Pairwise (fun x y => lt (L x) (L y) = true) → sepsOk r h q a l = true
  | [], a, _, _ => rfl
  | x :: l, a, h1, h2 => by
    obtain ⟨p1, p2, p3⟩ := h1 x List.mem_cons_self
    have h3 := List.pairwise_cons.1 h2
    simp only [sepsOk, Bool.and_eq_true, Bool.or_eq_true, decide_eq_true_eq]
    exact ⟨p1, p2, p3, seps_of_pw l (L x) (fun s hs => ⟨h3.1 s hs, (h1 s (List.mem_cons_of_mem _ hs)).2⟩) h3.2⟩
theorem fit_one {p : Nat} {xs : List ByteArray} (hp : 128 ≤ p) (ht : Tiny p xs) : fit p xs 1 = true := by
  unfold fit
  rw [isz_eq _ _ _ _ (by simp)]
  have h2 : 8 * (highOf xs 1).size ≤ p := by
    unfold highOf
    split
    · exact ht _ (List.getElem_mem _)
    · exact Nat.zero_le _
  have h3 : (stripped (xs.take (1 - 1))).2 = [] := by simp [stripped]
  rw [h3]
  simp only [Nat.sub_self, List.take_zero, List.map_nil, List.length_nil, List.sum_nil, decide_eq_true_eq]
  have : span ([] : List (List UInt8)) = 0 := rfl
  omega
theorem first_fit {p : Nat} {xs : List ByteArray} (hp : 128 ≤ p) (ht : Tiny p xs) : fit p xs (first p xs) = true := by
  have h1 := first_ge p xs
  by_cases h : first p xs = 1
  · rw [h]; exact fit_one hp ht
  · exact firstN_fit p xs xs.length 1 _ (by omega) (Nat.le_refl _)
theorem first_max {p : Nat} {xs : List ByteArray} (h : first p xs ≤ xs.length) : fit p xs (first p xs + 1) = false := by
  cases hf : fit p xs (first p xs + 1) with
  | false => rfl
  | true =>
    have := firstN_of_fit p xs (first p xs + 1) xs.length 1 (fun j h1 h2 => by
      by_cases e : j = first p xs + 1
      · rw [e]; exact hf
      · exact firstN_fit p xs xs.length 1 j h1 (by show j ≤ first p xs; omega)) (by omega)
    have e : firstN p xs xs.length 1 = first p xs := rfl
    omega
theorem rep_toNat (n : Nat) : (List.replicate n (3 : Int)).map Int.toNat = List.replicate n 3 := by rw [List.map_replicate]; rfl
/-- What encoding of these kids tells. -/
theorem room_enc {p : Nat} (hp : p = 128 ∨ p = 256 ∨ p = 512 ∨ p = 1024) {xs : List ByteArray} (hr : Rises p xs) (ht : Tiny p xs) (hs : Sm xs) (a n : Nat) (h1 : 1 ≤ n) (h2 : a + n ≤ xs.length + 1) (r : Int) (hrr : r = if a + n ≤ xs.length then 2 else 0) :
    (enc 1 1 r (highOf (xs.drop a) n) (List.replicate n 3) ((xs.drop a).take (n - 1)) (p : Int)).2 = if fit p (xs.drop a) n = true then 0 else 8 := by
  obtain ⟨g1, g2⟩ := rises_pw xs [] hr
  have hq := q_eq p (by omega)
  have hlen : ((xs.drop a).take (n - 1)).length = n - 1 := by rw [List.length_take, List.length_drop]; omega
  have hsub : ((xs.drop a).take (n - 1)).Sublist xs := (List.take_sublist _ _).trans (List.drop_sublist _ _)
  have hhi : a + n ≤ xs.length → ∃ hh : a + n - 1 < xs.length, highOf (xs.drop a) n = xs[a + n - 1] := fun hl => by
    refine ⟨by omega, ?_⟩
    unfold highOf
    rw [dif_pos (by rw [List.length_drop]; omega), List.getElem_drop]
    congr 1
    omega
  have hlo : ¬ a + n ≤ xs.length → highOf (xs.drop a) n = ⟨#[]⟩ := fun hl => by
    unfold highOf
    rw [dif_neg (by rw [List.length_drop]; omega)]
  have h8 : 8 * (highOf (xs.drop a) n).size ≤ p := by
    by_cases hl : a + n ≤ xs.length
    · obtain ⟨hh, e⟩ := hhi hl
      rw [e]
      exact ht _ (List.getElem_mem _)
    · rw [hlo hl]; exact Nat.zero_le _
  have hm : mayOk 1 1 r (highOf (xs.drop a) n) (List.replicate n 3) ((xs.drop a).take (n - 1)) (p : Int) = true := by
    refine may_of (by omega) (by omega) (by omega) (by split at hrr <;> omega) (by split at hrr <;> omega) (by rw [List.length_replicate, hlen]; omega) (fun x hx => by rw [(List.mem_replicate.1 hx).2]; omega) ?_ (by omega) ?_
    · by_cases hl : a + n ≤ xs.length
      · rw [if_pos hl] at hrr
        obtain ⟨hh, e⟩ := hhi hl
        rw [e]
        have := (lt_nil_iff _).1 (g1 _ (List.getElem_mem hh))
        exact ⟨fun h => by omega, fun h => absurd h this⟩
      · rw [if_neg hl] at hrr
        rw [hlo hl]
        exact ⟨fun _ => rfl, fun _ => hrr⟩
    · refine seps_of_pw _ _ (fun s m => ⟨g1 s (hsub.subset m), by rw [hq]; have := ht s (hsub.subset m); omega, ?_⟩) (g2.sublist hsub)
      by_cases hl : a + n ≤ xs.length
      · refine .inr ?_
        obtain ⟨hh, e⟩ := hhi hl
        rw [e]
        obtain ⟨j, hj, rfl⟩ := List.mem_iff_getElem.1 m
        have hj2 := hj
        rw [hlen] at hj2
        rw [List.getElem_take, List.getElem_drop]
        exact List.pairwise_iff_getElem.1 g2 (a + j) (a + n - 1) (by omega) hh (by omega)
      · rw [if_neg hl] at hrr
        exact .inl hrr
  have hd : diskOk (p : Int) = true := (diskOk_iff _).2 (by omega)
  have hn : inNeed (List.replicate n 3) ((xs.drop a).take (n - 1)) (highOf (xs.drop a) n) = isz 1 (List.replicate (n - 1) 1) ((xs.drop a).take (n - 1)) (highOf (xs.drop a) n) := by
    rw [inNeed_isz 3 (List.replicate (n - 1) 3) _ _ _ (by rw [rep_toNat]; obtain ⟨m, rfl⟩ : ∃ m, n = m + 1 := ⟨n - 1, by omega⟩; rfl), isz_eq _ _ _ _ (by rw [List.length_replicate, hlen]), isz_eq _ _ _ _ (by rw [List.length_replicate, hlen])]
  unfold enc
  rw [if_pos hd, if_pos hm, hn]
  unfold fit
  by_cases hf : isz 1 (List.replicate (n - 1) 1) ((xs.drop a).take (n - 1)) (highOf (xs.drop a) n) ≤ p - 16
  · rw [if_pos (by omega), if_pos (decide_eq_true hf)]
  · rw [if_neg (by omega), if_neg (by rw [decide_eq_false hf]; exact Bool.false_ne_true)]
theorem place_ev {p : Nat} (hp : p = 128 ∨ p = 256 ∨ p = 512 ∨ p = 1024) {xs : List ByteArray} (hr : Rises p xs) (ht : Tiny p xs) (hs : Sm xs) (a n : Nat) (h1 : 1 ≤ n) (h2 : a + n ≤ xs.length + 1) :
    Ev (fun k => withylaw17_place.f k xs (a : Int) (n : Int) (p : Int)) (if fit p (xs.drop a) n = true then 0 else 8) := by
  have hsl := hs.2
  have e0 : wrap64 ((a : Int) + (n : Int)) = ((a + n : Nat) : Int) := by rw [w64 (by omega) (by omega)]; omega
  have e1 : wrap64 (((a + n : Nat) : Int) - 1) = ((a + n - 1 : Nat) : Int) := by rw [w64 (by omega) (by omega)]; omega
  have hS : ((xs.drop a).take (n - 1)).length ≤ 1000 := by rw [List.length_take, List.length_drop]; omega
  have loop : ∀ (d i : Nat), i + d = n → Ev (fun k => withylaw17_place.l0 k xs (a : Int) (n : Int) (p : Int) (i : Int) 1 1 0 (⟨#[]⟩ : ByteArray) (List.replicate i 3) ((xs.drop a).take (n - 1))) (if fit p (xs.drop a) n = true then 0 else 8) := by
    intro d
    induction d with
    | zero =>
      intro i hi
      obtain rfl : i = n := by omega
      refine ev_step ?_
      simp only [withylaw17_place.l0]
      rw [e0, e1]
      refine ev_neg (by omega) ?_
      by_cases hl : a + i ≤ xs.length
      · refine ev_pos (by omega) (ev_pos (by omega) (ev_pos (by omega) ?_))
        rw [rdOf_nat _ xs (a + i - 1) (by omega)]
        have hhi : highOf (xs.drop a) i = xs[a + i - 1]'(by omega) := by
          unfold highOf
          rw [dif_pos (by rw [List.length_drop]; omega), List.getElem_drop]
          congr 1
          omega
        have he := room_enc hp hr ht hs a i h1 h2 2 (by rw [if_pos hl])
        rw [hhi] at he
        exact ev_bind (enc_ev 1 1 2 _ _ _ (p : Int) (by omega)) (ev_some' he)
      · refine ev_neg (by omega) ?_
        have hlo : highOf (xs.drop a) i = ⟨#[]⟩ := by
          unfold highOf
          rw [dif_neg (by rw [List.length_drop]; omega)]
        have he := room_enc hp hr ht hs a i h1 h2 0 (by rw [if_neg hl])
        rw [hlo] at he
        exact ev_bind (enc_ev 1 1 0 _ _ _ (p : Int) (by omega)) (ev_some' he)
    | succ d ih =>
      intro i hi
      refine ev_step ?_
      simp only [withylaw17_place.l0]
      refine ev_pos (by omega) (ev_pos (by rw [List.length_replicate]; omega) ?_)
      rw [w64_succ (by omega), ← List.replicate_succ']
      exact ih (i + 1) (by omega)
  unfold withylaw17_place.f
  refine ev_bind_now rfl ?_
  rw [e0, e1]
  simp only [Int.toNat_natCast, List.nil_append, List.length_nil, Nat.zero_add]
  have ed : (xs.take (a + n - 1)).drop a = (xs.drop a).take (n - 1) := by rw [List.drop_take]; congr 1; omega
  rw [ed]
  refine ev_pos (by omega) (ev_pos (by omega) (ev_pos (by omega) (ev_pos (by omega) ?_)))
  exact loop n 0 (by omega)
theorem room_loop {p : Nat} (hp : p = 128 ∨ p = 256 ∨ p = 512 ∨ p = 1024) {xs : List ByteArray} (hr : Rises p xs) (ht : Tiny p xs) (hs : Sm xs) (g : List Nat) (hgl : g.length ≤ 2000) : ∀ (d a i : Nat), a ≤ xs.length + 1 → xs.length + 1 - a ≤ d → i ≤ g.length → g.drop i = (if a = xs.length + 1 then [] else group p (xs.drop a)) →
    Ev (fun k => withylaw17_LevelRoom.l0 k xs (p : Int) (ints g) (a : Int) (i : Int)) true := by
  have hsl := hs.2
  intro d
  induction d with
  | zero =>
    intro a i h1 h2 h3 h4
    obtain rfl : a = xs.length + 1 := by omega
    rw [if_pos rfl] at h4
    have hi : g.length ≤ i := List.drop_eq_nil_iff.1 h4
    refine ev_step ?_
    simp only [withylaw17_LevelRoom.l0, ints_length]
    rw [w64 (x := (xs.length : Int) + 1) (by omega) (by omega)]
    exact ev_neg (by omega) (ev_pos (by omega) (ev_bind fixed_ev ev_some))
  | succ d ih =>
    intro a i h1 h2 h3 h4
    by_cases ha : a = xs.length + 1
    · exact ih a i h1 (by omega) h3 h4
    · rw [if_neg ha, group_eq] at h4
      have hi : i < g.length := by
        rcases Nat.lt_or_ge i g.length with h | h
        · exact h
        · rw [List.drop_of_length_le h] at h4; cases h4
      rw [List.drop_eq_getElem_cons hi] at h4
      obtain ⟨e1, e2⟩ := List.cons_eq_cons.1 h4
      have f1 := first_ge p (xs.drop a)
      have f2 := first_le p (xs.drop a)
      rw [List.length_drop] at f2
      have f3 := first_fit (p := p) (by omega) (ht.drop a)
      have f4 : first p (xs.drop a) ≤ (xs.drop a).length → _ := first_max (p := p) (xs := xs.drop a)
      have p1 := place_ev hp hr ht hs a (first p (xs.drop a)) f1 (by omega)
      rw [if_pos f3] at p1
      have rest : Ev (fun k => withylaw17_LevelRoom.l0 k xs (p : Int) (ints g) ((a + first p (xs.drop a) : Nat) : Int) ((i + 1 : Nat) : Int)) true := by
        refine ih (a + first p (xs.drop a)) (i + 1) (by omega) (by omega) (by omega) ?_
        rw [e2]
        by_cases hl : (xs.drop a).length < first p (xs.drop a)
        · rw [if_pos hl]
          rw [List.length_drop] at hl
          rw [if_pos (by omega)]
        · rw [if_neg hl, List.drop_drop]
          rw [List.length_drop] at hl
          rw [if_neg (by omega)]
      refine ev_step ?_
      simp only [withylaw17_LevelRoom.l0, ints_length]
      rw [rd_ints g i hi, e1, w64 (x := (a : Int) + _) (by omega) (by omega), w64 (x := (xs.length : Int) + 1) (by omega) (by omega)]
      refine ev_pos (by omega) (ev_pos (by omega) (ev_neg (by omega) (ev_step ?_)))
      simp only [withylaw17_LevelRoom.j1, ints_length]
      rw [rd_ints g i hi, e1, w64 (x := (a : Int) + _) (by omega) (by omega), w64_succ (i := i) (by omega), w64_succ (i := first p (xs.drop a)) (by omega)]
      refine ev_neg (by simp only [decide_eq_true_eq]; omega) (ev_pos (by omega) (ev_pos (by omega) (ev_bind p1 (ev_pos rfl ?_))))
      rw [show ((a : Int) + (first p (xs.drop a) : Int)) = ((a + first p (xs.drop a) : Nat) : Int) by omega]
      by_cases hl : a + first p (xs.drop a) ≤ xs.length
      · have f5 := f4 (by rw [List.length_drop]; omega)
        have p2 := place_ev hp hr ht hs a (first p (xs.drop a) + 1) (by omega) (by omega)
        rw [if_neg (by rw [f5]; exact Bool.false_ne_true)] at p2
        exact ev_pos (by omega) (ev_bind p2 (ev_pos rfl rest))
      · exact ev_neg (by omega) rest
theorem LevelRoom : withylaw17_LevelRoom.Pure := by
  intro l a hl ha
  obtain ⟨p, hp, hpc⟩ := size16 a
  obtain ⟨xs, e, hx, hr, ht, hs⟩ := rise_ev l p (by omega)
  refine Ev.rounds ?_
  show Ev (fun k => withylaw17_LevelRoom.f k l a) true
  unfold withylaw17_LevelRoom.f
  refine ev_bind_now hp (ev_bind e (ev_bind (group_ev hs p (by omega) (by omega)) ?_))
  have hgl : (group p xs).length ≤ 2000 := by have := group_len (p := p) (by omega) ht; omega
  exact room_loop hpc hr ht hs (group p xs) hgl (xs.length + 1) 0 0 (Nat.zero_le _) (by omega) (Nat.zero_le _) (by rw [List.drop_zero, if_neg (by omega), List.drop_zero])
end Go.Proofs.Ytfialmegikegbaa.Pure
