/- What is proved here: the pure statement of LevelTells: what the program's functions of level answer is what the reference's answer. Conditions: sizes within the form's reach. -/
import Derived.Test.YtfialmegikegbaaStmtLevelTells
import Derived.Test.YtfialmegikegbaaRLevel
set_option linter.unusedVariables false
set_option linter.unusedSimpArgs false
namespace Go.Proofs.Ytfialmegikegbaa.Pure
open Go.RowKit Go.Proofs.YtfialmegikegbaaW.PrintWords Go.Proofs.YtfialmegikegbaaW.PrintLast Go.Proofs.YtfialmegikegbaaW.PrintMore Go.Proofs.YtfialmegikegbaaEv Go.Proofs.YtfialmegikegbaaMath Go.Proofs.Ytfialmegikegbaa.P Go.Proofs.Ytfialmegikegbaa.Spec

theorem downOf_small : ∀ (g : List Nat) (xs : List ByteArray), ∀ l ∈ downOf xs g, l.length ≤ xs.length
  | [], _, l, h => by simp [downOf] at h
  | n :: r, xs, l, h => by
    rw [downOf] at h
    rcases List.mem_cons.1 h with rfl | h
    · rw [List.length_take]; omega
    · have := downOf_small r (xs.drop n) l h
      rw [List.length_drop] at this
      omega
theorem hts_small {p : Nat} (hp : 128 ≤ p) : ∀ (f : Nat) (xs : List ByteArray), Tiny p xs → (hts p f xs).length ≤ f ∧ ∀ l ∈ hts p f xs, l.length ≤ xs.length + 1
  | 0, xs, _ => by simp [hts]
  | f + 1, xs, ht => by
    rw [hts]
    by_cases hn : xs = []
    · rw [if_pos hn]; simp
    · rw [if_neg hn]
      obtain ⟨a, b⟩ := hts_small hp f _ (up_tiny ht)
      have h1 := group_len hp ht
      have h2 := up_less hp ht hn
      refine ⟨by simpa using a, fun l hl => ?_⟩
      rcases List.mem_cons.1 hl with rfl | hl
      · exact h1
      · have := b l hl
        omega
theorem LevelTells : withylaw17_LevelTells.Pure := by
  intro l q a hl hq ha
  obtain ⟨p, hp, hpc⟩ := size16 a
  obtain ⟨xs, e, hx, hr, ht, hs⟩ := rise_ev l p (by omega)
  have hcl := cut17_length l
  have hg := group_ge p xs
  have hsum := group_sum p xs
  have hgl := group_len (p := p) (by omega) ht
  have hright : rightL (wrap64 (Int.tdiv (p : Int) 8)) [] xs = true := hr
  have hok : sizeOk (p : Int) = true := by unfold sizeOk; rcases hpc with h | h | h | h <;> subst h <;> decide
  refine Ev.rounds ?_
  show Ev (fun k => withylaw17_LevelTells.f k l q a) true
  unfold withylaw17_LevelTells.f
  refine ev_bind (cut17_ev l) (ev_bind (right_ev _ _ (by omega)) (ev_bind (rright_ev _ _ (by omega)) (ev_neg (by simp) ?_)))
  refine ev_bind_now hp (ev_bind e (ev_bind (rgroup_ev hs p (by omega) (by omega)) ?_))
  refine ev_bind (right_ev _ _ (by omega)) (ev_pos (by rw [hright, hok]; rfl) ?_)
  refine ev_bind (group_ev hs p (by omega) (by omega)) (ev_bind (ints_ev _ _ (by rw [ints_length]; omega)) (ev_pos (decide_eq_true rfl) ?_))
  refine ev_bind (up_ev xs (by omega) _ hg (by omega) hsum) (ev_bind (rup_ev xs (by omega) _ hg (by omega) hsum) ?_)
  refine ev_bind (words_ev _ _ (by rw [upOf_length]; omega)) (ev_pos (decide_eq_true rfl) ?_)
  refine ev_bind (down_ev xs (by omega) _ hg (by omega) hsum) (ev_bind (rdown_ev xs (by omega) _ hg (by omega) hsum) ?_)
  refine ev_bind (lists_ev _ _ (by rw [downOf_length]; omega) (fun x h => by have := downOf_small _ _ x h; omega)) (ev_pos (decide_eq_true rfl) ?_)
  refine ev_bind (heights_ev p (by omega) (by omega) hs ht) (ev_bind (rheights_ev p (by omega) (by omega) hs ht) ?_)
  obtain ⟨h1, h2⟩ := hts_small (p := p) (by omega) xs.length xs ht
  refine ev_bind (numbers_ev _ _ (by simp [intss]; omega) (fun x h => ?_)) (ev_pos (decide_eq_true rfl) (ev_bind fixed_ev ev_some))
  obtain ⟨y, hy, rfl⟩ := List.mem_map.1 h
  have := h2 y hy
  rw [ints_length]
  omega
end Go.Proofs.Ytfialmegikegbaa.Pure
