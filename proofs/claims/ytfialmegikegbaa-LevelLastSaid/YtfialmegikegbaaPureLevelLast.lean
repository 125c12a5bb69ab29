/- What is proved here: the pure statement of LevelLast: the pages from any one on are those of its kids, and of all behind. Conditions: sizes within the form's reach. -/
import Derived.Test.YtfialmegikegbaaStmtLevelLast
import Derived.Test.YtfialmegikegbaaRLevel
set_option linter.unusedVariables false
set_option linter.unusedSimpArgs false
namespace Go.Proofs.Ytfialmegikegbaa.Pure
open Go.RowKit Go.Proofs.YtfialmegikegbaaW.PrintWords Go.Proofs.YtfialmegikegbaaW.PrintLast Go.Proofs.YtfialmegikegbaaW.PrintMore Go.Proofs.YtfialmegikegbaaEv Go.Proofs.YtfialmegikegbaaMath Go.Proofs.Ytfialmegikegbaa.P Go.Proofs.Ytfialmegikegbaa.Spec

theorem group_drop (p : Nat) : ∀ (k : Nat) (xs : List ByteArray), k < (group p xs).length → ((group p xs).take k).sum ≤ xs.length ∧ group p (xs.drop ((group p xs).take k).sum) = (group p xs).drop k
  | 0, xs, _ => by simp
  | k + 1, xs, h => by
    rw [group_eq] at h ⊢
    by_cases hl : xs.length < first p xs
    · rw [if_pos hl] at h
      simp at h
    · rw [if_neg hl] at h ⊢
      obtain ⟨a, b⟩ := group_drop p k (xs.drop (first p xs)) (by simpa using h)
      rw [List.length_drop] at a
      simp only [List.take_succ_cons, List.sum_cons, List.drop_succ_cons]
      rw [← List.drop_drop]
      exact ⟨by omega, b⟩
theorem last_l0 (xs : List ByteArray) (hx : xs.length ≤ 1000) (p : Nat) (hp1 : 128 ≤ p) (hp : p ≤ 1024) (hs : Sm xs) (ht : Tiny p xs) (hr : rightL (wrap64 (Int.tdiv (p : Int) 8)) [] xs = true) (hok : sizeOk (p : Int) = true) (m : Nat) (hm : m < (group p xs).length) : ∀ (d i : Nat), i ≤ m → m - i = d →
    Ev (fun k => withylaw17_LevelLast.l0 k xs (p : Int) (ints (group p xs)) (m : Int) (((group p xs).take i).sum : Int) (i : Int)) true := by
  have hgl := group_len hp1 ht
  obtain ⟨ha, hb⟩ := group_drop p m xs hm
  intro d
  induction d with
  | zero =>
    intro i h1 hd
    obtain rfl : i = m := by omega
    refine ev_step ?_
    simp only [withylaw17_LevelLast.l0]
    refine ev_neg (by omega) (ev_neg (by omega) (ev_neg (by omega) (ev_bind (rright_ev _ _ (by omega)) (ev_step ?_))))
    simp only [withylaw17_LevelLast.j1]
    rw [hr, hok, Int.toNat_natCast, Int.toNat_natCast]
    refine ev_neg (by decide) (ev_pos (by omega) (ev_pos (by omega) (ev_bind (group_ev (hs.drop _) p (by omega) (by omega)) (ev_pos (by omega) (ev_pos (by rw [ints_length]; omega) ?_)))))
    have e : ints (group p (xs.drop ((group p xs).take i).sum)) = (ints (group p xs)).drop i := by
      rw [hb]
      simp [ints, List.map_drop]
    rw [e]
    exact ev_bind (ints_ev _ _ (by rw [List.length_drop, ints_length]; omega)) (ev_pos (decide_eq_true rfl) (ev_bind fixed_ev ev_some))
  | succ d ih =>
    intro i h1 hd
    have hi : i < (group p xs).length := by omega
    have hts := sum_take_succ (group p xs) i hi
    have hle := sum_take_le (group p xs) (i + 1)
    have hsum := group_sum p xs
    refine ev_step ?_
    simp only [withylaw17_LevelLast.l0]
    rw [rd_ints _ i hi, w64 (x := _ + ((group p xs)[i] : Int)) (by omega) (by omega), w64_succ (by omega)]
    refine ev_pos (by omega) (ev_pos (by omega) (ev_pos (by rw [ints_length]; omega) ?_))
    have := ih (i + 1) (by omega) (by omega)
    rw [hts] at this
    exact this
theorem LevelLast : withylaw17_LevelLast.Pure := by
  intro l a b hl ha hb
  have hb' := wf_u8 hb
  obtain ⟨p, hp, hpc⟩ := size16 a
  obtain ⟨xs, e, hx, hr, ht, hs⟩ := rise_ev l p (by omega)
  have hgp : 1 ≤ (group p xs).length := List.length_pos_iff.2 (group_ne p xs)
  have hgl := group_len (p := p) (by omega) ht
  have hok : sizeOk (p : Int) = true := by unfold sizeOk; rcases hpc with h | h | h | h <;> subst h <;> decide
  refine Ev.rounds ?_
  show Ev (fun k => withylaw17_LevelLast.f k l a b) true
  unfold withylaw17_LevelLast.f
  refine ev_bind_now hp (ev_bind e (ev_bind (group_ev hs p (by omega) (by omega)) ?_))
  rw [ints_length, w64 (x := b) (by omega) (by omega), Int.tmod_eq_emod_of_nonneg (by omega)]
  have em1 := Int.emod_nonneg b (show ((group p xs).length : Int) ≠ 0 by omega)
  have em2 := Int.emod_lt_of_pos b (show (0 : Int) < ((group p xs).length : Int) by omega)
  obtain ⟨m, hm⟩ : ∃ m : Nat, b % ((group p xs).length : Int) = m := ⟨(b % ((group p xs).length : Int)).toNat, by omega⟩
  rw [hm]
  refine ev_neg (by omega) ?_
  have := last_l0 xs (by omega) p (by omega) (by omega) hs ht hr hok m (by omega) _ 0 (Nat.zero_le _) rfl
  simpa using this
end Go.Proofs.Ytfialmegikegbaa.Pure
