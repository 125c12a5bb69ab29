/- What is proved here: what sealing and opening of a page answer, in the reference (without the reading of four bytes). Conditions: sizes within the form's reach. -/
import Derived.Test.YtggfnlnonigkiaaGreatDoorHOpen
import Derived.Test.YtggfnlnonigkiaaGreatDoorChain2
set_option linter.unusedVariables false
set_option linter.unusedSimpArgs false
namespace Go.Proofs.YtggfnlnonigkiaaGreatDoor.HSpec
open Go.RowKit Go.Proofs.YtggfnlnonigkiaaGreatDoorW.PrintWords Go.Proofs.YtggfnlnonigkiaaGreatDoorW.PrintLast Go.Proofs.YtggfnlnonigkiaaGreatDoorW.PrintMore Go.Proofs.YtggfnlnonigkiaaGreatDoorEv Go.Proofs.YtggfnlnonigkiaaGreatDoorSum Go.Proofs.YtggfnlnonigkiaaGreatDoorHead Go.Proofs.YtggfnlnonigkiaaGreatDoor.P
theorem one_loop : ∀ (d i r : Nat), r < 4294967296 → i ≤ 8 → 8 - i = d → Ev (fun k => withyref02_one.l0 k (r : Int) (i : Int)) (shN d r : Int) := by
  intro d
  induction d with
  | zero =>
    intro i r h h1 hd
    refine ev_step ?_
    simp only [withyref02_one.l0]
    exact ev_neg (by omega) ev_some
  | succ d ih =>
    intro i r h h1 hd
    refine ev_step ?_
    simp only [withyref02_one.l0]
    refine ev_pos (by omega) ?_
    rw [w64_succ (by omega), Int.tmod_eq_emod_of_nonneg (by omega), Int.tdiv_eq_ediv_of_nonneg (by omega), show (r : Int) / 2 % 4294967296 = ((r / 2 : Nat) : Int) by omega]
    have hs : shN (d + 1) r = shN d (sh r) := rfl
    by_cases hp : r % 2 = 1
    · refine ev_pos (by omega) ?_
      rw [show (2197175160 : Int) = ((2197175160 : Nat) : Int) from rfl, u32_xor_nat _ _ (by omega) (by omega), hs]
      have : sh r = (r / 2) ^^^ 2197175160 := if_pos hp
      rw [this]
      exact ih (i + 1) _ (Nat.xor_lt_two_pow (n := 32) (by omega) (by omega)) (by omega) (by omega)
    · refine ev_neg (by omega) ?_
      have : sh r = r / 2 := if_neg hp
      rw [hs, this]
      exact ih (i + 1) _ (by omega) (by omega) (by omega)
theorem one_ev (r : Nat) (b : UInt8) (h : r < 4294967296) : Ev (fun k => withyref02_one.f k (r : Int) (b.toNat : Int)) (shN 8 (r ^^^ b.toNat) : Int) := by
  have hb := u8_lt b
  unfold withyref02_one.f
  rw [show (b.toNat : Int) % 4294967296 = (b.toNat : Int) by omega, u32_xor_nat _ _ h (by omega)]
  exact one_loop 8 0 _ (Nat.xor_lt_two_pow (n := 32) (by omega) (by omega)) (by omega) rfl
theorem rmore_loop (s : ByteArray) (hs : s.size ≤ 9223372036854775806) : ∀ (d i r : Nat), r < 4294967296 → i ≤ (L s).length → (L s).length - i = d → Ev (fun k => withyref02_More.l0 k s (r : Int) (i : Int)) (((4294967295 - reg r ((L s).drop i) : Nat)) : Int) := by
  have hl := L_length s
  intro d
  induction d with
  | zero =>
    intro i r h h1 hd
    refine ev_step ?_
    simp only [withyref02_More.l0]
    rw [List.drop_of_length_le (by omega)]
    refine ev_neg (by omega) (ev_some' ?_)
    show _ = ((4294967295 - r : Nat) : Int)
    omega
  | succ d ih =>
    intro i r h h1 hd
    have hi : i < (L s).length := by omega
    refine ev_step ?_
    simp only [withyref02_More.l0]
    rw [bt_L s i hi]
    refine ev_pos (by omega) (ev_pos (by omega) (ev_bind (one_ev r _ h) ?_))
    rw [w64_succ (by omega), List.drop_eq_getElem_cons hi]
    exact ih (i + 1) _ (shN_lt 8 (Nat.xor_lt_two_pow (n := 32) (by omega) (by have := u8_lt (L s)[i]; omega))) (by omega) (by omega)
theorem rsum_ev (s : ByteArray) (h : s.size ≤ 9223372036854775806) : Ev (fun k => withyref02_Sum.f k s) (crc (L s) : Int) := by
  unfold withyref02_Sum.f withyref02_More.f
  refine ev_bind ?_ ev_some
  exact rmore_loop s h _ 0 4294967295 (by omega) (Nat.zero_le _) rfl
theorem rfour_eq (n : Nat) (h : n < 4294967296) : withyref01_Four.f (n : Int) = some (fourB n) := by
  unfold withyref01_Four.f
  refine congrArg some (L_inj ?_)
  rw [fourB_L]
  show (strOfNums _).data.toList = _
  rw [strOfNums_data]
  simp only [List.map_cons, List.map_nil, le4]
  rw [Int.tmod_eq_emod_of_nonneg (by omega), Int.tdiv_eq_ediv_of_nonneg (by omega), Int.tdiv_eq_ediv_of_nonneg (by omega), Int.tdiv_eq_ediv_of_nonneg (by omega)]
  rw [show ((n : Int) % 256 % 256).toNat = n % 256 by omega, show ((n : Int) / 256 % 4294967296 % 256).toNat = (n / 256) % 256 by omega, show ((n : Int) / 65536 % 4294967296 % 256).toNat = (n / 65536) % 256 by omega, show ((n : Int) / 16777216 % 4294967296 % 256).toNat = (n / 16777216) % 256 by omega, ofNat_mod, ofNat_mod, ofNat_mod, ofNat_mod]
def numL : List UInt8 → Nat
  | [] => 0
  | b :: r => b.toNat + 256 * numL r
theorem numL_lt : ∀ l : List UInt8, numL l < 256 ^ l.length
  | [] => by simp [numL]
  | b :: r => by
    have := numL_lt r
    have hb := u8_lt b
    rw [List.length_cons, Nat.pow_succ]
    simp only [numL]
    omega
theorem number_loop (s : ByteArray) (hs : s.size ≤ 7) : ∀ i : Nat, i ≤ s.size → Ev (fun k => withyref07_number.l0 k s (numL ((L s).drop i) : Int) ((i : Int) - 1)) (numL (L s) : Int)
  | 0, h => by
    refine ev_step ?_
    simp only [withyref07_number.l0]
    exact ev_neg (by omega) (ev_some' (by rw [List.drop_zero]))
  | i + 1, h => by
    have hl := L_length s
    have hi : i < (L s).length := by omega
    have hn := numL_lt ((L s).drop i)
    have hp : 256 ^ ((L s).drop i).length ≤ 256 ^ 7 := Nat.pow_le_pow_right (by omega) (by rw [List.length_drop]; omega)
    have hd : numL ((L s).drop i) = ((L s)[i]).toNat + 256 * numL ((L s).drop (i + 1)) := by rw [List.drop_eq_getElem_cons hi]; rfl
    have hb := u8_lt (L s)[i]
    refine ev_step ?_
    simp only [withyref07_number.l0]
    rw [show ((i + 1 : Nat) : Int) - 1 = (i : Int) by omega, bt_L s i hi]
    refine ev_pos (by omega) (ev_pos (by omega) (ev_pos (by omega) ?_))
    rw [w64 (x := (numL ((L s).drop (i + 1)) : Int) * 256) (by omega) (by omega), w64 (x := (((L s)[i]).toNat : Int)) (by omega) (by omega), w64 (x := _ + _) (by omega) (by omega), w64 (x := (i : Int) - 1) (by omega) (by omega)]
    have := number_loop s hs i (by omega)
    rw [hd] at this
    rw [show (numL ((L s).drop (i + 1)) : Int) * 256 + (((L s)[i]).toNat : Int) = ((((L s)[i]).toNat + 256 * numL ((L s).drop (i + 1)) : Nat) : Int) by omega]
    exact this
theorem number_ev (s : ByteArray) (hs : s.size ≤ 7) : Ev (fun k => withyref07_number.f k s) (numL (L s) : Int) := by
  have hl := L_length s
  have := number_loop s hs s.size (Nat.le_refl _)
  unfold withyref07_number.f
  rw [w64 (by omega) (by omega)]
  rw [List.drop_of_length_le (by omega)] at this
  exact this
theorem numL_two (l : List UInt8) (i : Nat) (h : i + 2 ≤ l.length) : numL ((l.drop i).take 2) = (l.getD i 0).toNat + 256 * (l.getD (i + 1) 0).toNat := by
  rw [List.drop_eq_getElem_cons (show i < l.length by omega), List.drop_eq_getElem_cons (show i + 1 < l.length by omega)]
  simp only [List.take_succ_cons, List.take_zero, numL, List.getD_eq_getElem?_getD, List.getElem?_eq_getElem (show i < l.length by omega), List.getElem?_eq_getElem (show i + 1 < l.length by omega), Option.getD_some]
  omega
theorem numL_four (l : List UInt8) (i : Nat) (h : i + 4 ≤ l.length) : numL ((l.drop i).take 4) = rd4 (l.drop i) := by
  unfold rd4
  rw [getD_drop, getD_drop, getD_drop, getD_drop]
  have d0 : l.drop i = l[i] :: l.drop (i + 1) := List.drop_eq_getElem_cons (by omega)
  have d1 : l.drop (i + 1) = l[i + 1] :: l.drop (i + 2) := List.drop_eq_getElem_cons (by omega)
  have d2 : l.drop (i + 2) = l[i + 2] :: l.drop (i + 3) := List.drop_eq_getElem_cons (by omega)
  have d3 : l.drop (i + 3) = l[i + 3] :: l.drop (i + 4) := List.drop_eq_getElem_cons (by omega)
  rw [d0, d1, d2, d3]
  simp only [List.take_succ_cons, List.take_zero, numL, Nat.add_zero, Option.getD_some, List.getD_eq_getElem?_getD, List.getElem?_eq_getElem (show i < l.length by omega), List.getElem?_eq_getElem (show i + 1 < l.length by omega), List.getElem?_eq_getElem (show i + 2 < l.length by omega), List.getElem?_eq_getElem (show i + 3 < l.length by omega)]
  omega
theorem rsized_eq (p : Int) : withyref06_Size.f p = some (head_may.sized p) := by
  unfold withyref06_Size.f head_may.sized
  by_cases h1 : p = 128
  · simp [h1]
  · by_cases h2 : p = 256
    · simp [h2]
    · by_cases h3 : p = 512
      · simp [h3]
      · by_cases h4 : p = 1024
        · simp [h4]
        · simp [h1, h2, h3, h4]
theorem rright_eq (a0 a1 a2 a3 a4 : Int) : withyref07_Right.f a0 a1 a2 a3 a4 = some (head_may.right a0 a1 a2 a3 a4) := by
  have h := right_iff a0 a1 a2 a3 a4
  unfold withyref07_Right.f
  cases hr : head_may.right a0 a1 a2 a3 a4
  · rw [hr] at h
    have h' : ¬ (1 ≤ a0 ∧ a0 < 5 ∧ 0 ≤ a1 ∧ a1 < 256 ∧ 0 ≤ a2 ∧ a2 < 65536 ∧ 0 ≤ a3 ∧ a3 < 4096 ∧ 0 ≤ a4 ∧ a4 < 4096) := fun e => Bool.noConfusion (h.2 e)
    repeat' split
    all_goals first | rfl | (refine congrArg some (decide_eq_false ?_); omega)
  · have h' := h.1 hr
    rw [if_pos (by omega), if_pos (by omega), if_pos (by omega), if_pos (by omega), if_pos (by omega), if_pos (by omega), if_pos (by omega), if_pos (by omega), if_pos (by omega)]
    exact congrArg some (decide_eq_true (by omega))
theorem rseal_ev (a0 a1 a2 a3 a4 : Int) (b : ByteArray) (p : Int) : Ev (fun k => withyref07_Seal.f k a0 a1 a2 a3 a4 b p) (sealed a0 a1 a2 a3 a4 b p) := by
  unfold withyref07_Seal.f
  by_cases h1 : head_may.sized p = true
  · refine ev_bind_now (rsized_eq p) (ev_pos h1 (ev_bind_now (rright_eq _ _ _ _ _) ?_))
    have h1' := (sized_iff p).1 h1
    by_cases h2 : head_may.right a0 a1 a2 a3 a4 = true
    · refine ev_pos h2 ?_
      rw [w64 (x := p - 16) (by omega) (by omega)]
      by_cases h3 : p - 16 < (b.size : Int)
      · have hc : head_may.code a0 a1 a2 a3 a4 b p = 8 := by unfold head_may.code; rw [if_pos h1, if_pos h2, if_pos h3]
        rw [sealed_not (by omega), hc]
        exact ev_pos h3 ev_some
      · have hc : head_may.code a0 a1 a2 a3 a4 b p = 0 := by unfold head_may.code; rw [if_pos h1, if_pos h2, if_neg h3]
        refine ev_neg (by omega) ?_
        obtain ⟨x, P, ok, rfl, rfl, rfl, rfl, rfl, rfl, hP, hb⟩ := code_zero hc
        rw [sealed_of ok hP hb]
        obtain ⟨o1, o2, o3, o4, o5, o6⟩ := ok
        unfold Size at hP
        rw [Int.tdiv_eq_ediv_of_nonneg (by omega), Int.tmod_eq_emod_of_nonneg (by omega), show (x.c : Int) / 256 = ((x.c / 256 : Nat) : Int) by omega, w64 (x := ((x.c / 256 : Nat) : Int)) (by omega) (by omega), show (x.r : Int) % 4294967296 = (x.r : Int) by omega, show (x.s : Int) % 4294967296 = (x.s : Int) by omega, show (x.c : Int) % 256 % 256 = (x.c : Int) % 256 by omega]
        refine ev_bind_now rfl (ev_bind_now (rfour_eq _ (by omega)) (ev_pos (by rw [size4, fourB_size]; omega) (ev_bind_now (rfour_eq _ (by omega)) (ev_pos (by rw [ByteArray.size_append, size4, fourB_size, fourB_size]; omega) ?_))))
        rw [front_four, w64 (by omega) (by omega), show (P : Int) - 16 - (b.size : Int) = ((P - 16 - b.size : Nat) : Int) by omega]
        have hs := headB_size x
        refine ev_bind (rrepeat_ev 0 _ (by omega)) ?_
        rw [repB_zero]
        have hr : L (b ++ zerosB (P - 16 - b.size)) = rest (L b) P := by rw [L_append, zerosB_L, rest, L_length]
        have hrs : (b ++ zerosB (P - 16 - b.size)).size = P - 16 := by rw [ByteArray.size_append, zerosB_size]; omega
        have hL : L ((headB x ++ (⟨#[0, 0, 0, 0]⟩ : ByteArray)) ++ (b ++ zerosB (P - 16 - b.size))) = front x ++ [0, 0, 0, 0] ++ rest (L b) P := by
          rw [L_append, L_append, hr, headB_L]
        refine ev_pos (by rw [zerosB_size]; omega) (ev_pos (by omega) (ev_pos (by rw [hrs, ByteArray.size_append, hs, z4_size]; omega) (ev_bind (rsum_ev _ (by rw [ByteArray.size_append, ByteArray.size_append, hrs, hs, z4_size]; omega)) (ev_bind_now (rfour_eq _ (crc_lt _)) (ev_pos (by rw [fourB_size, hs]; omega) (ev_pos (by rw [ByteArray.size_append, hrs, hs, fourB_size]; omega) (ev_some' ?_)))))))
        refine Prod.ext (L_inj ?_) rfl
        rw [L_append, L_append, hr, headB_L, fourB_L, hL, pageB_L]
        try rfl
    · have hc : head_may.code a0 a1 a2 a3 a4 b p = 3 := by unfold head_may.code; rw [if_pos h1, if_neg h2]
      rw [sealed_not (by omega), hc]
      exact ev_neg h2 ev_some
  · have hc : head_may.code a0 a1 a2 a3 a4 b p = 4 := by unfold head_may.code; rw [if_neg h1]
    rw [sealed_not (by omega), hc]
    exact ev_bind_now (rsized_eq p) (ev_neg h1 ev_some)
theorem ropen_ev (s : ByteArray) (hsz : s.size ≤ 140737488300000) : Ev (fun k => withyref07_Open.f k s) (opened s) := by
  have hl := L_length s
  unfold withyref07_Open.f
  refine ev_bind_now (rsized_eq _) ?_
  by_cases h1 : head_may.sized (s.size : Int) = true
  · have h1' := (sized_iff _).1 h1
    have hs : Size s.size := by unfold Size; omega
    have h16 := size16 hs
    have b0 := u8_lt ((L s).getD 0 0)
    have b1 := u8_lt ((L s).getD 1 0)
    have t0 : bt s 0 = _ := bt_getD s 0
    have t1 : bt s 1 = _ := bt_getD s 1
    have n2 := number_ev (s.extract 2 4) (by rw [size_extract]; omega)
    have n4 := number_ev (s.extract 4 8) (by rw [size_extract]; omega)
    have n8 := number_ev (s.extract 8 12) (by rw [size_extract]; omega)
    rw [L_extract, numL_two _ _ (by omega)] at n2
    rw [L_extract, numL_four _ _ (by omega)] at n4
    rw [L_extract, numL_four _ _ (by omega)] at n8
    refine ev_pos h1 (ev_pos (by omega) (ev_pos (by omega) (ev_pos (by omega) (ev_pos (by omega) (ev_bind n2 (ev_pos (by omega) (ev_pos (by omega) (ev_bind n4 (ev_pos (by omega) (ev_pos (by omega) (ev_bind n8 (ev_pos (by omega) ?_))))))))))))
    rw [t0, t1, w64 (x := (((L s).getD 0 0).toNat : Int)) (by omega) (by omega), w64 (x := (((L s).getD 1 0).toNat : Int)) (by omega) (by omega)]
    refine ev_bind (rseal_ev (got (L s)).k (got (L s)).l (got (L s)).c (got (L s)).r (got (L s)).s (body s) s.size) ?_
    rcases sealed_got hs with ⟨hp, e⟩ | ⟨hp, e⟩
    · rw [e, opened_page hp]
      exact ev_pos rfl (ev_pos rfl (ev_some' rfl))
    · rw [opened_none hp]
      by_cases h2 : (sealed (got (L s)).k (got (L s)).l (got (L s)).c (got (L s)).r (got (L s)).s (body s) s.size).2 = 0
      · rcases e with e | e
        · exact absurd h2 e
        · exact ev_pos h2 (ev_neg (by rw [L_toList, L_toList]; exact e) (ev_some' rfl))
      · exact ev_neg h2 (ev_some' rfl)
  · rw [opened_none (fun h => h1 ((sized_iff _).2 (by have := h.1; unfold Size at this; omega)))]
    exact ev_neg h1 (ev_some' rfl)
end Go.Proofs.YtggfnlnonigkiaaGreatDoor.HSpec
