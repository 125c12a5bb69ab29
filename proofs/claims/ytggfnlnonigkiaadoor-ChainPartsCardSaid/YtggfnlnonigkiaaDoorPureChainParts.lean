/- What is proved here: the pure statement of ChainParts. Conditions: sizes within the form's reach. -/
import Derived.Test.YtggfnlnonigkiaaDoorStmtChainParts
import Derived.Test.YtggfnlnonigkiaaDoorChain2
set_option linter.unusedVariables false
set_option linter.unusedSimpArgs false
namespace Go.Proofs.YtggfnlnonigkiaaDoor.Pure
open Go.RowKit Go.Proofs.YtggfnlnonigkiaaDoorW.PrintWords Go.Proofs.YtggfnlnonigkiaaDoorW.PrintLast Go.Proofs.YtggfnlnonigkiaaDoorW.PrintMore Go.Proofs.YtggfnlnonigkiaaDoorEv Go.Proofs.YtggfnlnonigkiaaDoorSum Go.Proofs.YtggfnlnonigkiaaDoorHead Go.Proofs.YtggfnlnonigkiaaDoor.P Go.Proofs.YtggfnlnonigkiaaDoor.HSpec Go.Proofs.YtggfnlnonigkiaaDoor.Spec
theorem r6_eq (p : Int) : withyref06_Size.f p = some (diskOk p) := by
  unfold withyref06_Size.f diskOk
  by_cases h1 : p = 128
  · rw [if_pos h1, decide_eq_true h1]; rfl
  · rw [if_neg h1, decide_eq_false h1]
    by_cases h2 : p = 256
    · rw [if_pos h2, decide_eq_true h2]; rfl
    · rw [if_neg h2, decide_eq_false h2]
      by_cases h3 : p = 512
      · rw [if_pos h3, decide_eq_true h3]; rfl
      · rw [if_neg h3, decide_eq_false h3]; rfl
theorem parts_law {r : Nat} (hr1 : 1 ≤ r) (hr2 : r ≤ 1008) (p : Int) (hp : p = (r : Int) + 16) (hd : p = 128 ∨ p = 256 ∨ p = 512 ∨ p = 1024) (x : ByteArray) (hx : x.size ≤ 3000) (l : List ByteArray) (hl : l.length = pgs x.size r) : ∀ (f i : Nat) (acc y : ByteArray), y.size ≤ f → i ≤ l.length → l.drop i = pt r f y → L acc ++ L y = L x →
    Ev (fun k => withylaw12_ChainParts.l0 k x p l acc (i : Int)) true := by
  have hll : l.length ≤ 3001 := by rw [hl]; unfold pgs; have := Nat.div_le_self x.size r; omega
  intro f
  induction f with
  | zero =>
    intro i acc y h1 h2 h3 h4
    have hi : l.length ≤ i := List.drop_eq_nil_iff.1 (h3.trans (pt_nil r 0 y (by omega)))
    have hy : L y = [] := List.eq_nil_of_length_eq_zero (by rw [L_length]; omega)
    rw [hy, List.append_nil] at h4
    refine ev_step ?_
    simp only [withylaw12_ChainParts.l0, L_toList]
    exact ev_neg (by omega) (ev_pos h4 (ev_bind_now (pages_nat x.size r (by omega) hr1 hr2 hp) (ev_pos (by rw [hl]) (ev_bind fixed_ev ev_some))))
  | succ f ih =>
    intro i acc y h1 h2 h3 h4
    by_cases h0 : y.size = 0
    · have hi : l.length ≤ i := List.drop_eq_nil_iff.1 (h3.trans (pt_nil r _ y h0))
      have hy : L y = [] := List.eq_nil_of_length_eq_zero (by rw [L_length]; omega)
      rw [hy, List.append_nil] at h4
      refine ev_step ?_
      simp only [withylaw12_ChainParts.l0, L_toList]
      exact ev_neg (by omega) (ev_pos h4 (ev_bind_now (pages_nat x.size r (by omega) hr1 hr2 hp) (ev_pos (by rw [hl]) (ev_bind fixed_ev ev_some))))
    · rw [pt_cons r f y h0] at h3
      have hi : i < l.length := by
        rcases Nat.lt_or_ge i l.length with h | h
        · exact h
        · rw [List.drop_of_length_le h] at h3; cases h3
      rw [List.drop_eq_getElem_cons hi] at h3
      obtain ⟨e1, e2⟩ := List.cons_eq_cons.1 h3
      have hys : y.size ≤ x.size := by
        have := congrArg List.length h4
        rw [List.length_append, L_length, L_length, L_length] at this
        omega
      have has : acc.size ≤ x.size := by
        have := congrArg List.length h4
        rw [List.length_append, L_length, L_length, L_length] at this
        omega
      have hsz : (y.extract 0 (min r y.size)).size = min r y.size := by rw [size_extract]; omega
      have hrs : (y.extract (min r y.size) y.size).size = y.size - min r y.size := by rw [size_extract]; omega
      have hlen2 : l.length = i + 1 + (y.size - min r y.size + r - 1) / r := by
        have := congrArg List.length e2
        rw [List.length_drop, pt_length r hr1 f _ (by omega), hrs] at this
        omega
      obtain ⟨q, hq⟩ : ∃ q, q = (y.size - min r y.size + r - 1) / r := ⟨_, rfl⟩
      rw [← hq] at hlen2
      have hmore : i + 1 < l.length → r < y.size := fun h => by
        rcases Nat.lt_or_ge r y.size with h5 | h5
        · exact h5
        · have : q = 0 := by
            rw [hq, Nat.min_eq_right h5, Nat.sub_self]
            exact Nat.div_eq_of_lt (by omega)
          omega
      have hlast : ¬ i + 1 < l.length → y.size ≤ r := fun h => by
        rcases Nat.lt_or_ge r y.size with h5 | h5
        · have : 1 ≤ q := by
            rw [hq, Nat.min_eq_left (by omega), show y.size - r + r - 1 = (y.size - r - 1) + r by omega, Nat.add_div_right _ (by omega)]
            exact Nat.succ_le_succ (Nat.zero_le _)
          omega
        · exact h5
      clear hq
      have next : Ev (fun k => withylaw12_ChainParts.l0 k x p l (acc ++ y.extract 0 (min r y.size)) (wrap64 ((i : Int) + 1))) true := by
        rw [w64_succ (by omega)]
        refine ih (i + 1) _ (y.extract (min r y.size) y.size) (by omega) (by omega) e2 ?_
        rw [L_append, L_to, L_from, List.append_assoc, List.take_append_drop]
        exact h4
      have cont : ∀ n : Int, Ok 1 n (y.extract 0 (min r y.size)) p → Ev (fun k => (chain_May.f 1 n (y.extract 0 (min r y.size)) p).bind fun t => (if t = true then (if acc.size + (y.extract 0 (min r y.size)).size ≤ 9223372036854775807 then (withylaw12_ChainParts.l0 k x p l (acc ++ y.extract 0 (min r y.size)) (wrap64 ((i : Int) + 1))) else (none)) else (none))) true := fun n hk =>
        ev_bind_now (may_eq 1 n _ p) (ev_pos (decide_eq_true hk) (ev_pos (by rw [hsz]; omega) next))
      refine ev_step ?_
      simp only [withylaw12_ChainParts.l0]
      rw [rdOf_nat _ l i hi, e1, w16 hd]
      refine ev_pos (by omega) (ev_pos (by omega) (ev_neg (by rw [hsz]; omega) (ev_neg (by rw [hsz]; omega) ?_)))
      have ew : wrap64 (wrap64 ((l.length : Int) - 1) - (i : Int)) = (l.length : Int) - 1 - (i : Int) := by rw [w64 (x := (l.length : Int) - 1) (by omega) (by omega), w64 (by omega) (by omega)]
      rw [ew, mn_eq]
      have ew2 : wrap64 ((i : Int) + 1) = (i : Int) + 1 := w64 (by omega) (by omega)
      by_cases hm : i + 1 < l.length
      · have h5 := hmore hm
        refine ev_pos (by rw [ew2]; omega) (ev_pos (by rw [hsz]; omega) (cont _ ?_))
        have e3 : wrap64 (2 * min 1 ((l.length : Int) - 1 - (i : Int))) = 2 := by rw [w64 (by omega) (by omega)]; omega
        rw [e3]
        exact ⟨hd, by omega, by omega, by omega, fun h => by omega, fun _ => by rw [hsz]; omega⟩
      · have h5 := hlast hm
        refine ev_neg (by rw [ew2]; omega) (cont _ ?_)
        have e3 : wrap64 (2 * min 1 ((l.length : Int) - 1 - (i : Int))) = 0 := by rw [w64 (by omega) (by omega)]; omega
        rw [e3]
        exact ⟨hd, by omega, by omega, by omega, fun _ => by rw [hsz]; omega, fun h => absurd rfl h⟩
theorem ChainParts : withylaw12_ChainParts.Pure := by
  intro x0 x1 h0 h1
  refine Ev.rounds ?_
  show Ev (fun k => withylaw12_ChainParts.f k x0 x1) true
  unfold withylaw12_ChainParts.f
  have hm : (mn (x0.size : Int) 3000).toNat = min x0.size 3000 := by rw [mn_eq]; omega
  rw [hm, mn_eq]
  refine ev_pos (by omega) (ev_pos (by omega) (ev_bind_now (r6_eq x1) ?_))
  have hs : (x0.extract 0 (min x0.size 3000)).size ≤ 3000 := by rw [size_extract]; omega
  generalize x0.extract 0 (min x0.size 3000) = x at hs ⊢
  by_cases hd : diskOk x1 = true
  · refine ev_pos hd ?_
    have hd' := (diskOk_iff x1).1 hd
    obtain ⟨r, hr, hp⟩ : ∃ r : Nat, (1 ≤ r ∧ r ≤ 1008) ∧ x1 = (r : Int) + 16 := ⟨(x1 - 16).toNat, by omega, by omega⟩
    refine ev_bind (parts_ev x (by omega) hp hr.1 hr.2) ?_
    refine parts_law hr.1 hr.2 x1 hp hd' x hs (pt r x.size x) ?_ x.size 0 ⟨#[]⟩ x (Nat.le_refl _) (Nat.zero_le _) List.drop_zero rfl
    rw [pt_length r hr.1 _ _ (Nat.le_refl _), pgs_eq _ _ hr.1]
  · refine ev_neg hd (ev_bind_now (may_eq 1 0 ⟨#[120]⟩ x1) (ev_neg ?_ (ev_bind fixed_ev ev_some)))
    rw [decide_eq_false (fun h => hd ((diskOk_iff x1).2 h.1))]
    exact Bool.false_ne_true
end Go.Proofs.YtggfnlnonigkiaaDoor.Pure
