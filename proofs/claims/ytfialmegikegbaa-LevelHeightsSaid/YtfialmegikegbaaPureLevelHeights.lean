/- What is proved here: the pure statement of LevelHeights: each level has as many kids as the one below has pages, up to one page. Conditions: sizes within the form's reach. -/
import Derived.Test.YtfialmegikegbaaStmtLevelHeights
import Derived.Test.YtfialmegikegbaaLevel3
set_option linter.unusedVariables false
set_option linter.unusedSimpArgs false
namespace Go.Proofs.Ytfialmegikegbaa.Pure
open Go.RowKit Go.Proofs.YtfialmegikegbaaW.PrintWords Go.Proofs.YtfialmegikegbaaW.PrintLast Go.Proofs.YtfialmegikegbaaW.PrintMore Go.Proofs.YtfialmegikegbaaEv Go.Proofs.YtfialmegikegbaaMath Go.Proofs.Ytfialmegikegbaa.P Go.Proofs.Ytfialmegikegbaa.Spec

theorem hts_length {p : Nat} (hp : 128 ≤ p) : ∀ (n f : Nat) (xs : List ByteArray), Tiny p xs → xs.length < 2 ^ n → (hts p f xs).length ≤ n := by
  intro n
  induction n with
  | zero =>
    intro f xs ht hl
    obtain rfl : xs = [] := List.eq_nil_of_length_eq_zero (by simpa using hl)
    cases f <;> simp [hts]
  | succ n ih =>
    intro f xs ht hl
    cases f with
    | zero => simp [hts]
    | succ f =>
      rw [hts]
      by_cases hn : xs = []
      · rw [if_pos hn]; simp
      · rw [if_neg hn]
        have h1 := up_less hp ht hn
        have := ih f _ (up_tiny ht) (by rw [Nat.pow_succ] at hl; omega)
        simp only [List.length_cons]
        omega
theorem sum_ints_loop (H : List (List Int)) (i : Nat) (hi : i < H.length) (g : List Nat) (hH : H[i] = ints g) (hgl : g.length ≤ 2000) (kids : Nat) (hs : g.sum = kids) (hk : kids ≤ 2000) (h2 : 2 ≤ kids) (hlt : g.length < kids) (hHl : H.length ≤ 2000)
    (hnext : Ev (fun k => withylaw17_LevelHeights.l0 k H (g.length : Int) ((i + 1 : Nat) : Int)) true) : ∀ (d j : Nat), j ≤ g.length → g.length - j = d →
    Ev (fun k => withylaw17_LevelHeights.l1 k H (kids : Int) (i : Int) ((g.take j).sum : Int) (j : Int)) true := by
  have hget : rd_L6 H (i : Int) = ints g := by
    have : rd_L6 H (i : Int) = H[i] := rdOf_nat _ H i hi
    rw [this, hH]
  intro d
  induction d with
  | zero =>
    intro j h1 hd
    obtain rfl : j = g.length := by omega
    refine ev_step ?_
    simp only [withylaw17_LevelHeights.l1, hget, ints_length]
    rw [List.take_length, hs, w64_succ (i := i) (by omega)]
    exact ev_pos (by omega) (ev_pos (by omega) (ev_neg (by omega) (ev_pos rfl (ev_neg (by omega) (ev_neg (by omega) hnext)))))
  | succ d ih =>
    intro j h1 hd
    have hj : j < g.length := by omega
    refine ev_step ?_
    simp only [withylaw17_LevelHeights.l1, hget, ints_length]
    have hts := sum_take_succ g j hj
    have hle := sum_take_le g (j + 1)
    rw [rd_ints g j hj, w64_succ (i := j) (by omega), w64 (x := _ + (g[j] : Int)) (by omega) (by omega)]
    refine ev_pos (by omega) (ev_pos (by omega) (ev_pos (by omega) (ev_pos (by omega) ?_)))
    have := ih (j + 1) (by omega) (by omega)
    rw [hts] at this
    exact this
theorem heights_check {p : Nat} (hp : 128 ≤ p) (H : List (List Int)) (hHl : H.length ≤ 7) : ∀ (f : Nat) (xs : List ByteArray) (i : Nat), Tiny p xs → xs.length ≤ 1000 → xs.length ≤ f → i + (hts p f xs).length = H.length → H.drop i = intss (hts p f xs) →
    Ev (fun k => withylaw17_LevelHeights.l0 k H ((xs.length + 1 : Nat) : Int) (i : Int)) true := by
  intro f
  induction f with
  | zero =>
    intro xs i ht hx hf hi hd
    obtain rfl : xs = [] := List.eq_nil_of_length_eq_zero (by omega)
    simp [hts] at hi
    refine ev_step ?_
    simp only [withylaw17_LevelHeights.l0]
    exact ev_neg (by omega) (ev_pos (by simp) (ev_pos (by omega) (ev_bind fixed_ev ev_some)))
  | succ f ih =>
    intro xs i ht hx hf hi hd
    by_cases hn : xs = []
    · subst hn
      simp [hts] at hi
      refine ev_step ?_
      simp only [withylaw17_LevelHeights.l0]
      exact ev_neg (by omega) (ev_pos (by simp) (ev_pos (by omega) (ev_bind fixed_ev ev_some)))
    · have hpos : 0 < xs.length := List.length_pos_iff.2 hn
      rw [hts, if_neg hn] at hi hd
      simp only [List.length_cons] at hi
      have hil : i < H.length := by omega
      rw [List.drop_eq_getElem_cons hil] at hd
      simp only [intss, List.map_cons, List.cons.injEq] at hd
      have hh := group_half hp ht
      have hl := up_less hp ht hn
      have hul : (upOf xs 0 (group p xs)).length = (group p xs).length - 1 := upOf_length _ _ _
      have hgp : 1 ≤ (group p xs).length := List.length_pos_iff.2 (group_ne p xs)
      refine ev_step ?_
      simp only [withylaw17_LevelHeights.l0]
      refine ev_pos (by omega) ?_
      have hnext := ih (upOf xs 0 (group p xs)) (i + 1) (up_tiny ht) (by omega) (by omega) (by omega) hd.2
      rw [hul, show (group p xs).length - 1 + 1 = (group p xs).length by omega] at hnext
      have := sum_ints_loop H i hil (group p xs) hd.1 (by omega) (xs.length + 1) (group_sum p xs) (by omega) (by omega) (by omega) (by omega) hnext _ 0 (Nat.zero_le _) rfl
      simpa using this
theorem LevelHeights : withylaw17_LevelHeights.Pure := by
  intro l a hl ha
  obtain ⟨p, hp, hpc⟩ := size16 a
  obtain ⟨xs, e, hx, hr, ht, hs⟩ := rise_ev l p (by omega)
  refine Ev.rounds ?_
  show Ev (fun k => withylaw17_LevelHeights.f k l a) true
  unfold withylaw17_LevelHeights.f
  refine ev_bind_now hp (ev_bind e (ev_bind (heights_ev p (by omega) (by omega) hs ht) ?_))
  rw [w64_succ (by omega)]
  have h7 := hts_length (p := p) (by omega) 6 xs.length xs ht (by omega)
  exact heights_check (p := p) (by omega) _ (by simp [intss]; omega) xs.length xs 0 ht (by omega) (Nat.le_refl _) (by simp [intss]) rfl
end Go.Proofs.Ytfialmegikegbaa.Pure
