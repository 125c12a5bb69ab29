/- What is proved here: the pure statement of LevelAll: all kids stand on pages, in order, each once; what stands on pages, and between them, in turn, are the Seps. Conditions: sizes within the form's reach. -/
import Derived.Test.YtfialmegikegbaaStmtLevelAll
import Derived.Test.YtfialmegikegbaaLevel3
set_option linter.unusedVariables false
set_option linter.unusedSimpArgs false
namespace Go.Proofs.Ytfialmegikegbaa.Pure
open Go.RowKit Go.Proofs.YtfialmegikegbaaW.PrintWords Go.Proofs.YtfialmegikegbaaW.PrintLast Go.Proofs.YtfialmegikegbaaW.PrintMore Go.Proofs.YtfialmegikegbaaEv Go.Proofs.YtfialmegikegbaaMath Go.Proofs.Ytfialmegikegbaa.P Go.Proofs.Ytfialmegikegbaa.Spec

theorem downOf_get : ∀ (g : List Nat) (xs : List ByteArray) (i : Nat) (h : i < g.length), (downOf xs g)[i]? = some ((xs.drop (g.take i).sum).take (g[i] - 1))
  | n :: r, xs, 0, _ => by simp [downOf]
  | n :: r, xs, i + 1, h => by
    have := downOf_get r (xs.drop n) i (by simpa using h)
    rw [downOf, List.getElem?_cons_succ, this, List.drop_drop]
    simp
theorem upOf_get (xs : List ByteArray) : ∀ (g : List Nat) (a i : Nat) (h : i + 1 < g.length), (upOf xs a g)[i]? = some (xs.getD (a + (g.take (i + 1)).sum - 1) ⟨#[]⟩)
  | n :: m :: r, a, 0, _ => by simp [upOf]
  | n :: m :: r, a, i + 1, h => by
    rw [upOf, List.getElem?_cons_succ, upOf_get xs (m :: r) (a + n) i (by simpa using h)]
    simp only [List.take_succ_cons, List.sum_cons]
    rw [Nat.add_assoc]
theorem take_snoc (xs : List ByteArray) (S m : Nat) (hS : S = m + 1) (h : S - 1 < xs.length) : xs.take S = xs.take m ++ [xs[S - 1]] := by
  subst hS
  have h2 : m < xs.length := by omega
  rw [List.take_add_one, List.getElem?_eq_getElem h2]
  rfl
theorem all_l1 {p : Nat} (xs : List ByteArray) (hx : xs.length ≤ 1000) (g : List Nat) (hg : ∀ x ∈ g, 1 ≤ x) (hs : g.sum = xs.length + 1) (hgl : g.length ≤ 2000) : ∀ (d i : Nat), i ≤ g.length → g.length - i = d →
    Ev (fun k => withylaw17_LevelAll.l1 k xs (ints g) (upOf xs 0 g) (downOf xs g) (xs.take (g.take i).sum) (i : Int)) true := by
  intro d
  induction d with
  | zero =>
    intro i h1 hd
    obtain rfl : i = g.length := by omega
    refine ev_step ?_
    simp only [withylaw17_LevelAll.l1, ints_length]
    refine ev_neg (by omega) ?_
    rw [List.take_length, hs, List.take_of_length_le (by omega)]
    exact ev_bind (words_ev xs xs (by omega)) (ev_pos (by simp) (ev_bind fixed_ev ev_some))
  | succ d ih =>
    intro i h1 hd
    have hi : i < g.length := by omega
    have hgi := hg _ (List.getElem_mem hi)
    have hdl := downOf_length g xs
    have hul := upOf_length xs g 0
    have ht := sum_take_succ g i hi
    have hle := sum_take_le g (i + 1)
    have hget : rd_L5 (downOf xs g) (i : Int) = (xs.drop (g.take i).sum).take (g[i] - 1) := rdOf_get _ _ _ _ (downOf_get g xs i hi)
    refine ev_step ?_
    simp only [withylaw17_LevelAll.l1, ints_length]
    rw [hget, rd_ints g i hi, w64 (x := (g[i] : Int) - 1) (by omega) (by omega), w64_succ (by omega)]
    have hlen : ((xs.drop (g.take i).sum).take (g[i] - 1)).length = g[i] - 1 := by rw [List.length_take, List.length_drop]; omega
    have hacc : (xs.take (g.take i).sum).length ≤ 1000 := by rw [List.length_take]; omega
    rw [hlen]
    refine ev_pos (by omega) (ev_pos (by omega) (ev_pos (by omega) (ev_pos (by omega) (ev_pos (by omega) (ev_bind ev_some ?_)))))
    have hcat : xs.take (g.take i).sum ++ (xs.drop (g.take i).sum).take (g[i] - 1) = xs.take ((g.take i).sum + (g[i] - 1)) := by rw [List.take_add]
    rw [hcat]
    by_cases hl : i + 1 < g.length
    · have hu := upOf_get xs g 0 i hl
      have hsl : (g.take (i + 1)).sum ≤ xs.length := by
        have h2 := hg _ (List.getElem_mem hl)
        have h3 := sum_take_succ g (i + 1) hl
        have h4 := sum_take_le g (i + 1 + 1)
        omega
      rw [Nat.zero_add, getD_get _ _ _ (show (g.take (i + 1)).sum - 1 < xs.length by omega)] at hu
      refine ev_pos (by omega) (ev_pos (by rw [List.length_take]; omega) ?_)
      rw [rdOf_get _ _ _ _ hu]
      have := ih (i + 1) (by omega) (by omega)
      have e : xs.take (g.take (i + 1)).sum = xs.take ((g.take i).sum + (g[i] - 1)) ++ [xs[(g.take (i + 1)).sum - 1]'(by omega)] := by
        exact take_snoc xs _ _ (by omega) _
      rw [e] at this
      exact this
    · refine ev_neg (by omega) ?_
      have := ih (i + 1) (by omega) (by omega)
      have e : xs.take (g.take (i + 1)).sum = xs.take ((g.take i).sum + (g[i] - 1)) := by
        have e1 : g.take (i + 1) = g := List.take_of_length_le (by omega)
        rw [e1, hs] at ht
        rw [e1, hs, List.take_of_length_le (by omega), List.take_of_length_le (by omega)]
      rw [e] at this
      exact this
theorem all_l0 {p : Nat} (hp : 128 ≤ p) (xs : List ByteArray) (hx : xs.length ≤ 1000) (ht : Tiny p xs) : ∀ (d i : Nat), i ≤ (group p xs).length → (group p xs).length - i = d →
    Ev (fun k => withylaw17_LevelAll.l0 k xs (ints (group p xs)) (((group p xs).take i).sum : Int) (i : Int)) true := by
  have hg := group_ge p xs
  have hs := group_sum p xs
  have h2 := group_two hp (xs.length + 1) xs (by omega) ht
  have hgl := group_len hp ht
  generalize group p xs = g at hg hs h2 hgl ⊢
  intro d
  induction d with
  | zero =>
    intro i h1 hd
    obtain rfl : i = g.length := by omega
    refine ev_step ?_
    simp only [withylaw17_LevelAll.l0, ints_length]
    rw [List.take_length, hs, w64 (x := (xs.length : Int) + 1) (by omega) (by omega), w64 (x := (g.length : Int) - 1) (by omega) (by omega)]
    refine ev_neg (by omega) (ev_pos (by omega) (ev_bind (up_ev xs hx g hg (by omega) hs) (ev_bind (down_ev xs hx g hg (by omega) hs) ?_)))
    have hpos : 1 ≤ g.length := by
      cases g with
      | nil => simp at hs
      | cons _ _ => simp
    rw [upOf_length, downOf_length]
    refine ev_pos (by omega) (ev_step ?_)
    simp only [withylaw17_LevelAll.j1]
    refine ev_neg (by simp) ?_
    exact all_l1 (p := p) xs hx g hg hs (by omega) _ 0 (Nat.zero_le _) rfl
  | succ d ih =>
    intro i h1 hd
    have hi : i < g.length := by omega
    have hgi := hg _ (List.getElem_mem hi)
    have hts := sum_take_succ g i hi
    have hle := sum_take_le g (i + 1)
    refine ev_step ?_
    simp only [withylaw17_LevelAll.l0, ints_length]
    rw [rd_ints g i hi, w64_succ (by omega), w64 (x := (xs.length : Int) + 1) (by omega) (by omega), w64 (x := (xs.length : Int) + 1 - _) (by omega) (by omega), w64 (x := _ + (g[i] : Int)) (by omega) (by omega)]
    refine ev_pos (by omega) (ev_pos (by omega) (ev_neg (by omega) ?_))
    have hrec := ih (i + 1) (by omega) (by omega)
    rw [show ((((g.take i).sum : Nat) : Int) + (g[i] : Int)) = (((g.take (i + 1)).sum : Nat) : Int) by omega]
    by_cases hl : i + 1 < g.length
    · have := h2 i hl
      rw [getD_get _ _ _ hi] at this
      exact ev_pos (by omega) (ev_neg (by omega) (ev_neg (by omega) hrec))
    · exact ev_neg (by omega) (ev_neg (by omega) hrec)
theorem LevelAll : withylaw17_LevelAll.Pure := by
  intro l a hl ha
  obtain ⟨p, hp, hpc⟩ := size16 a
  obtain ⟨xs, e, hx, hr, ht, hs⟩ := rise_ev l p (by omega)
  refine Ev.rounds ?_
  show Ev (fun k => withylaw17_LevelAll.f k l a) true
  unfold withylaw17_LevelAll.f
  refine ev_bind_now hp (ev_bind e (ev_bind (group_ev hs p (by omega) (by omega)) ?_))
  exact all_l0 (by omega) xs (by omega) ht _ 0 (Nat.zero_le _) rfl
end Go.Proofs.Ytfialmegikegbaa.Pure
