/- What is proved here: what the reference of chain answers, in plain words. Conditions: sizes within the form's reach. -/
import Derived.Test.YtggfnlnonigkiaaGreatDoorPS
import Derived.Test.YtggfnlnonigkiaaGreatDoorEv
import Derived.Test.YtggfnlnonigkiaaGreatDoorChain2
import Derived.Test.YtggfnlnonigkiaaGreatDoorHRef2
set_option linter.unusedVariables false
set_option linter.unusedSimpArgs false
namespace Go.Proofs.YtggfnlnonigkiaaGreatDoor.Spec
open Go.RowKit Go.Proofs.YtggfnlnonigkiaaGreatDoorW.PrintWords Go.Proofs.YtggfnlnonigkiaaGreatDoorW.PrintLast Go.Proofs.YtggfnlnonigkiaaGreatDoorW.PrintMore Go.Proofs.YtggfnlnonigkiaaGreatDoorEv  Go.Proofs.YtggfnlnonigkiaaGreatDoor.P
theorem not_true_of {b : Bool} (h : b = false) : ¬ b = true := by rw [h]; exact Bool.false_ne_true
theorem words_loop (a b : List ByteArray) (hl : a.length = b.length) (hb : a.length ≤ 140737488351232) : ∀ (d i : Nat), i ≤ a.length → a.length - i = d →
    Ev (fun k => withyref01_Words.l0 k a b (i : Int)) (decide (a.drop i = b.drop i)) := by
  intro d
  induction d with
  | zero =>
    intro i h1 hd
    refine ev_step ?_
    simp only [withyref01_Words.l0]
    refine ev_neg (by omega) (ev_some' ?_)
    rw [List.drop_of_length_le (by omega), List.drop_of_length_le (by omega)]
    simp
  | succ d ih =>
    intro i h1 hd
    have hi : i < a.length := by omega
    have hj : i < b.length := by omega
    refine ev_step ?_
    simp only [withyref01_Words.l0, L_toList]
    rw [rdOf_nat _ a i hi, rdOf_nat _ b i hj]
    refine ev_pos (by omega) (ev_pos (by omega) (ev_pos (by omega) ?_))
    rw [List.drop_eq_getElem_cons hi, List.drop_eq_getElem_cons hj]
    by_cases h : L a[i] = L b[i]
    · refine ev_pos h ?_
      rw [w64_succ (by omega)]
      refine ev_eq (ih (i + 1) (by omega) (by omega)) (decide_eq_decide.2 ?_)
      rw [L_inj h]
      exact ⟨fun e => by rw [e], fun e => by injection e⟩
    · refine ev_neg h (ev_some' (Eq.symm (decide_eq_false ?_)))
      intro e
      injection e with e1 e2
      exact h (by rw [e1])
theorem words_ev (a b : List ByteArray) (hb : a.length ≤ 140737488351232) : Ev (fun k => withyref01_Words.f k a b) (decide (a = b)) := by
  unfold withyref01_Words.f
  by_cases hl : a.length = b.length
  · refine ev_pos (by omega) ?_
    exact words_loop a b hl hb _ 0 (Nat.zero_le _) rfl
  · refine ev_neg (by omega) (ev_some' ?_)
    exact Eq.symm (decide_eq_false (fun e => hl (by rw [e])))
end Go.Proofs.YtggfnlnonigkiaaGreatDoor.Spec
namespace Go.Proofs.YtggfnlnonigkiaaGreatDoor.Spec
open Go.RowKit Go.Proofs.YtggfnlnonigkiaaGreatDoorW.PrintWords Go.Proofs.YtggfnlnonigkiaaGreatDoorW.PrintLast Go.Proofs.YtggfnlnonigkiaaGreatDoorW.PrintMore Go.Proofs.YtggfnlnonigkiaaGreatDoorEv Go.Proofs.YtggfnlnonigkiaaGreatDoorSum Go.Proofs.YtggfnlnonigkiaaGreatDoorHead Go.Proofs.YtggfnlnonigkiaaGreatDoor.P Go.Proofs.YtggfnlnonigkiaaGreatDoor.HSpec
theorem r6_eq (p : Int) : withyref06_Size.f p = some (diskOk p) := by
  unfold withyref06_Size.f diskOk
  by_cases h1 : p = 128
  · rw [if_pos h1, decide_eq_true h1]; rfl
  · rw [if_neg h1, decide_eq_false h1]
    by_cases h2 : p = 256
    · rw [if_pos h2, decide_eq_true h2]; rfl
    · rw [if_neg h2, decide_eq_false h2]
      by_cases h3 : p = 512
      · rw [if_pos h3, decide_eq_true h3]; rfl
      · rw [if_neg h3, decide_eq_false h3]; rfl
theorem rmay_eq (s n : Int) (d : ByteArray) (p : Int) : withyref12_May.f s n d p = some (decide (Ok s n d p)) := by
  unfold withyref12_May.f
  rw [r6_eq, Option.bind_some]
  by_cases h0 : diskOk p = true
  · have h0' := (diskOk_iff p).1 h0
    rw [if_pos h0]
    by_cases h1 : s < 1
    · rw [if_pos h1, decide_eq_false (fun q => by have := q.2.1; omega)]
    · rw [if_neg h1]
      by_cases h2 : s > 4095
      · rw [if_pos h2, decide_eq_false (fun q => by have := q.2.1; omega)]
      · rw [if_neg h2]
        by_cases h3 : n < 0
        · rw [if_pos h3, decide_eq_false (fun q => by have := q.2.2.1; omega)]
        · rw [if_neg h3]
          by_cases h4 : n > 4095
          · rw [if_pos h4, decide_eq_false (fun q => by have := q.2.2.1; omega)]
          · rw [if_neg h4]
            by_cases h5 : n = s
            · rw [if_pos h5, decide_eq_false (fun q => q.2.2.2.1 h5)]
            · rw [if_neg h5, w16 h0']
              have base : Ok s n d p ↔ Full n d (p - 16) := ⟨fun q => q.2.2.2.2, fun q => ⟨h0', by omega, by omega, h5, q⟩⟩
              by_cases h6 : (d.size : Int) ≥ 1
              · rw [if_pos h6]
                by_cases h7 : (d.size : Int) ≤ p - 16
                · rw [if_pos h7]
                  by_cases h8 : n = 0
                  · rw [if_pos h8, decide_eq_true (base.2 ⟨fun _ => ⟨by omega, h7⟩, fun q => absurd h8 q⟩)]
                  · rw [if_neg h8]
                    refine congrArg some ?_
                    rw [Bool.eq_iff_iff, beq_iff_eq, decide_eq_true_eq, base]
                    exact ⟨fun q => ⟨fun q2 => absurd q2 h8, fun _ => q⟩, fun q => q.2 h8⟩
                · rw [if_neg h7, decide_eq_false (fun q => h7 (by
                    have q := base.1 q
                    by_cases h8 : n = 0
                    · exact (q.1 h8).2
                    · have := q.2 h8; omega))]
              · rw [if_neg h6, decide_eq_false (fun q => h6 (by
                  have q := base.1 q
                  by_cases h8 : n = 0
                  · have := (q.1 h8).1; omega
                  · have := q.2 h8; omega))]
  · rw [if_neg h0, decide_eq_false (fun q => h0 ((diskOk_iff p).2 q.1))]
theorem renc_ev (s n : Int) (d : ByteArray) (p : Int) : Ev (fun k => withyref12_Encode.f k s n d p) (chEnc s n d p) := by
  unfold withyref12_Encode.f chEnc
  refine ev_bind_now (r6_eq p) ?_
  by_cases h0 : diskOk p = true
  · rw [if_pos h0]
    refine ev_pos h0 (ev_bind_now (rmay_eq s n d p) ?_)
    by_cases h1 : Ok s n d p
    · rw [if_pos h1]
      obtain ⟨P, rfl, hP, hd, hp, et⟩ := ok_size h1
      have hk := ok_hd h1
      have e1 := h1.2.1
      have e2 := h1.2.2.1
      have hs := sealed_of (x := chHd s n d) hk (b := d) hP hd
      have q1 : ((chHd s n d).r : Int) = n := by show ((n.toNat : Nat) : Int) = n; omega
      have q2 : ((chHd s n d).s : Int) = s := by show ((s.toNat : Nat) : Int) = s; omega
      rw [q1, q2] at hs
      refine ev_pos (decide_eq_true h1) (ev_bind (ev_eq (rseal_ev 4 0 (d.size : Int) n s d (P : Int)) hs) (ev_some' ?_))
      unfold chPage
      rw [et]
    · rw [if_neg h1]
      exact ev_neg (by rw [decide_eq_false h1]; exact Bool.false_ne_true) ev_some
  · rw [if_neg h0]
    exact ev_neg h0 ev_some
theorem rdec_bad (s body : ByteArray) (a b c r f : Int) : Ev (fun k => withyref12_Decode.j0 k s body true a b c r f) (0, 0, ⟨#[]⟩, 3) := by
  refine ev_step ?_
  simp only [withyref12_Decode.j0]
  exact ev_pos (by first | exact trivial | rfl) ev_some
theorem enc_ne {s n : Int} {d : ByteArray} {p : Int} (h : ¬ Ok s n d p) : (chEnc s n d p).2 ≠ 0 := by
  unfold chEnc
  rw [if_neg h]
  split <;> decide
theorem rdec_ev (s : ByteArray) (hs : s.size ≤ 140737488300000) : Ev (fun k => withyref12_Decode.f k s) (chDec s) := by
  classical
  unfold withyref12_Decode.f
  refine ev_bind (ropen_ev s hs) ?_
  have hc0 := opened_nn s
  by_cases hn : NotAny (opened s) (s.size : Int)
  · have hbad : chDec s = (0, 0, ⟨#[]⟩, 3) := if_pos hn
    rw [hbad]
    by_cases h0 : (opened s).2.2.2.2.2.2 = 0
    · refine ev_pos h0 ?_
      by_cases h1 : (opened s).1 = 4
      · refine ev_pos h1 (ev_step ?_)
        simp only [withyref12_Decode.j0]
        by_cases hc : (opened s).2.2.1 > ((opened s).2.2.2.2.2.1.size : Int)
        · exact ev_pos (decide_eq_true hc) ev_some
        · refine ev_neg (by rw [decide_eq_false hc]; exact Bool.false_ne_true) (ev_pos hc0 (ev_pos (by omega) ?_))
          refine ev_bind (renc_ev _ _ _ _) ?_
          by_cases hk : Ok (opened s).2.2.2.2.1 (opened s).2.2.2.1 ((opened s).2.2.2.2.2.1.extract 0 (opened s).2.2.1.toNat) (s.size : Int)
          · rw [enc_ok hk]
            refine ev_pos rfl (ev_neg (fun q => ?_) ev_some)
            rw [L_toList, L_toList] at q
            have hd := dec_page hk
            have hpe : chPage (opened s).2.2.2.2.1 (opened s).2.2.2.1 ((opened s).2.2.2.2.2.1.extract 0 (opened s).2.2.1.toNat) (s.size : Int) = s := L_inj q
            rw [hpe, hbad] at hd
            have := congrArg (fun x : Int × Int × ByteArray × Int => x.2.2.2) hd
            simp only at this
            omega
          · exact ev_neg (enc_ne hk) ev_some
      · exact ev_neg h1 (rdec_bad _ _ _ _ _ _ _)
    · exact ev_neg h0 (rdec_bad _ _ _ _ _ _ _)
  · have hgood : chDec s = ((opened s).2.2.2.2.1, (opened s).2.2.2.1, (opened s).2.2.2.2.2.1.extract 0 (opened s).2.2.1.toNat, 0) := if_neg hn
    obtain ⟨hk, hp⟩ := dec_some hgood
    obtain ⟨g0, g1, g2, g3, g4, g5, g6⟩ := Classical.not_not.1 hn
    rw [hgood]
    refine ev_pos g0 (ev_pos g1 (ev_step ?_))
    simp only [withyref12_Decode.j0]
    refine ev_neg (by rw [decide_eq_false (by omega)]; exact Bool.false_ne_true) (ev_pos hc0 (ev_pos g4 ?_))
    refine ev_bind (ev_eq (renc_ev _ _ _ _) (enc_ok hk)) ?_
    rw [hp]
    exact ev_pos rfl (ev_pos rfl ev_some)
theorem rparts_loop (x : ByteArray) (hx : x.size ≤ 3000) {p : Int} {r : Nat} (hp : p = (r : Int) + 16) (hr : 1 ≤ r) (hr2 : r ≤ 1008) : ∀ (f at_ : Nat) (y : ByteArray) (acc : List ByteArray), y.size ≤ f → L y = (L x).drop at_ → at_ ≤ 5000 → acc.length + f ≤ 1000000 → Ev (fun k => withyref12_Parts.l0 k x p acc (at_ : Int)) (acc ++ pt r f y) := by
  intro f
  have hys : ∀ (at_ : Nat) (y : ByteArray), L y = (L x).drop at_ → y.size = x.size - at_ := fun at_ y h => by
    have := congrArg List.length h
    rw [List.length_drop, L_length, L_length] at this
    exact this
  induction f with
  | zero =>
    intro a y acc h1 h2 h3 h4
    have := hys a y h2
    rw [pt_nil r 0 y (by omega), List.append_nil]
    refine ev_step ?_
    simp only [withyref12_Parts.l0]
    exact ev_neg (by omega) ev_some
  | succ f ih =>
    intro a y acc h1 h2 h3 h4
    have hs := hys a y h2
    refine ev_step ?_
    simp only [withyref12_Parts.l0]
    by_cases h0 : y.size = 0
    · rw [pt_nil r _ y h0, List.append_nil]
      exact ev_neg (by omega) ev_some
    · rw [pt_cons r f y h0]
      have ew : wrap64 (wrap64 ((a : Int) + p) - 16) = ((a + r : Nat) : Int) := by rw [w64 (x := (a : Int) + p) (by omega) (by omega), w64 (by omega) (by omega)]; omega
      rw [ew, mn_eq, Int.toNat_natCast]
      have em : (min ((a + r : Nat) : Int) (x.size : Int)).toNat = min (a + r) x.size := by omega
      rw [em]
      have ee : x.extract a (min (a + r) x.size) = y.extract 0 (min r y.size) := by
        refine L_inj ?_
        rw [L_extract, L_to, h2]
        congr 1
        omega
      rw [ee]
      have hn : L (y.extract (min r y.size) y.size) = (L x).drop (a + r) := by
        rw [L_from, h2, List.drop_drop]
        by_cases h5 : r ≤ y.size
        · rw [Nat.min_eq_left h5]
        · rw [List.drop_of_length_le (by rw [L_length]; omega), List.drop_of_length_le (by rw [L_length]; omega)]
      refine ev_pos (by omega) (ev_pos (by omega) (ev_pos (by omega) (ev_pos (by omega) (ev_pos (by omega) ?_))))
      have := ih (a + r) (y.extract (min r y.size) y.size) (acc ++ [y.extract 0 (min r y.size)]) (by rw [size_extract]; omega) hn (by omega) (by rw [List.length_append]; show acc.length + 1 + f ≤ _; omega)
      rw [List.append_assoc] at this
      exact this
theorem rparts_ev (x : ByteArray) (hx : x.size ≤ 3000) {p : Int} {r : Nat} (hp : p = (r : Int) + 16) (hr : 1 ≤ r) (hr2 : r ≤ 1008) : Ev (fun k => withyref12_Parts.f k x p) (pt r x.size x) := by
  unfold withyref12_Parts.f
  have := rparts_loop x hx hp hr hr2 x.size 0 x [] (Nat.le_refl _) List.drop_zero.symm (by omega) (by simpa using Nat.le_trans hx (by omega))
  rw [List.nil_append] at this
  exact this
theorem pages_same (n : Int) (h1 : -9223372036854775808 ≤ n) (h2 : n ≤ 9223372036854775807) {p : Int} {r : Nat} (hr : 112 ≤ r) (hr2 : r ≤ 1008) (hp : p = (r : Int) + 16) : ∃ v, chain_Pages.f n p = some v ∧ withyref12_Pages.f n p = some v := by
  have ez : wrap64 (p - 16) = (r : Int) := by rw [w64 (by omega) (by omega)]; omega
  by_cases h0 : n < 1
  · refine ⟨0, pages_neg n (by omega) (by omega) hr2 hp, ?_⟩
    unfold withyref12_Pages.f
    exact if_pos h0
  · obtain ⟨a, rfl⟩ : ∃ a : Nat, n = (a : Int) := ⟨n.toNat, by omega⟩
    have hq : a / r * 112 ≤ a := Nat.le_trans (Nat.mul_le_mul_left _ hr) (Nat.div_mul_le_self a r)
    have hq2 : (a - 1) / r * 112 ≤ a - 1 := Nat.le_trans (Nat.mul_le_mul_left _ hr) (Nat.div_mul_le_self (a - 1) r)
    have hpg : pgs a r = (a - 1) / r + 1 := by
      rw [← pgs_eq a r (by omega), show a + r - 1 = (a - 1) + r by omega, Nat.add_div_right _ (by omega)]
    refine ⟨(pgs a r : Int), ?_, ?_⟩
    · unfold chain_Pages.f
      rw [ez, if_neg (by omega), mx_eq, mn_eq]
      have e0 : max (a : Int) 0 = (a : Int) := by omega
      rw [e0, ← Int.natCast_ediv, ← Int.natCast_emod]
      unfold pgs
      generalize a / r = q at hq ⊢
      generalize a % r = m
      rw [w64 (x := (q : Int)) (by omega) (by omega), w64 (by omega) (by omega)]
      exact congrArg some (by omega)
    · unfold withyref12_Pages.f
      rw [ez, if_neg h0, if_neg (by omega), w64 (x := (a : Int) - 1) (by omega) (by omega), show (a : Int) - 1 = ((a - 1 : Nat) : Int) by omega, Int.tdiv_eq_ediv_of_nonneg (by omega), ← Int.natCast_ediv, hpg]
      generalize (a - 1) / r = q at hq2 ⊢
      rw [w64 (x := (q : Int)) (by omega) (by omega), w64 (by omega) (by omega)]
      exact congrArg some (by omega)
end Go.Proofs.YtggfnlnonigkiaaGreatDoor.Spec
