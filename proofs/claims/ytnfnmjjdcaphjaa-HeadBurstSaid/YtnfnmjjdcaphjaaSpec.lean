/- What is proved here: what the printed functions of head, of its reference and of what they call answer, in plain words. Conditions: sizes within the form's reach. -/
import Derived.Test.YtnfnmjjdcaphjaaPF
import Derived.Test.YtnfnmjjdcaphjaaHead
set_option linter.unusedVariables false
set_option linter.unusedSimpArgs false
namespace Go.Proofs.Ytnfnmjjdcaphjaa.Spec
open Go.RowKit Go.Proofs.YtnfnmjjdcaphjaaW.PrintWords Go.Proofs.YtnfnmjjdcaphjaaW.PrintLast Go.Proofs.YtnfnmjjdcaphjaaW.PrintMore Go.Proofs.YtnfnmjjdcaphjaaEv Go.Proofs.YtnfnmjjdcaphjaaSum Go.Proofs.YtnfnmjjdcaphjaaHead Go.Proofs.Ytnfnmjjdcaphjaa.P

/-! ### the sum -/
theorem sum_shift_eq (r : Nat) (h : r < 4294967296) : sum_shift (r : Int) = (sh r : Int) := by
  unfold sum_shift sh
  rw [show (1 : Int) = ((1 : Nat) : Int) from rfl, u32_and_nat r 1 h (by omega), Nat.and_one_is_mod, show (r : Int) / 2 = ((r / 2 : Nat) : Int) by omega, show (2197175160 : Int) = ((2197175160 : Nat) : Int) from rfl, u32_xor_nat _ _ (by omega) (by omega)]
  by_cases hp : r % 2 = 1
  · rw [if_pos hp, if_pos (by omega)]
  · rw [if_neg hp, if_neg (by omega)]
theorem sum_stepN_eq : ∀ (n r : Nat), r < 4294967296 → sum_stepN n (r : Int) = (shN n r : Int)
  | 0, r, h => rfl
  | n + 1, r, h => by
    show sum_stepN n (sum_shift (r : Int)) = _
    rw [sum_shift_eq r h, sum_stepN_eq n _ (sh_lt h)]
    rfl
theorem sum_turn_eq (r : Nat) (b : UInt8) (h : r < 4294967296) : sum_turn (r : Int) (b.toNat : Int) = (shN 8 (r ^^^ b.toNat) : Int) := by
  have hb := u8_lt b
  have hx : (r % 256) ^^^ b.toNat < 256 := Nat.xor_lt_two_pow (n := 8) (by omega) (by omega)
  unfold sum_turn
  rw [show (r : Int) % 256 = ((r % 256 : Nat) : Int) by omega, u8_xor_nat _ _ (by omega) hb, sum_stepN_eq 8 _ (by omega), show (r : Int) / 256 = ((r / 256 : Nat) : Int) by omega, u32_xor_nat _ _ (shN_lt 8 (by omega)) (by omega), ← turn_eq]
theorem sum_fold_eq : ∀ (l : List UInt8) (r : Nat), r < 4294967296 → (l.map fun b => (b.toNat : Int)).foldl sum_turn (r : Int) = (reg r l : Int)
  | [], r, h => rfl
  | b :: l, r, h => by
    rw [List.map_cons, List.foldl_cons, sum_turn_eq r b h, sum_fold_eq l _ (shN_lt 8 (Nat.xor_lt_two_pow (n := 32) (by omega) (by have := u8_lt b; omega)))]
    rfl
theorem sum_eq (s : ByteArray) (h : s.size ≤ 9223372036854775806) : sum_Table.f s = some (crc (L s) : Int) := by
  unfold sum_Table.f sum_More.f
  have e1 : Go.bits .xor .u32 IntKind.u32.max 0 = ((4294967295 : Nat) : Int) := u32_xor_nat 4294967295 0 (by omega) (by omega)
  have h2 := reg_lt (L s) 4294967295 (by omega)
  have e2 : (bytesOf s).foldl sum_turn ((4294967295 : Nat) : Int) = (reg 4294967295 (L s) : Int) := sum_fold_eq (L s) 4294967295 (by omega)
  have e3 : Go.bits .xor .u32 IntKind.u32.max (reg 4294967295 (L s) : Int) = ((4294967295 ^^^ reg 4294967295 (L s) : Nat) : Int) := u32_xor_nat 4294967295 _ (by omega) h2
  rw [if_pos h, Option.bind_some, e1, e2, e3, not_eq _ h2]
  rfl
/-! ### small functions -/
theorem ofNat_mod (n : Nat) : UInt8.ofNat (n % 256) = UInt8.ofNat n := by
  rw [← UInt8.toNat_inj]
  simp
def fourB (n : Nat) : ByteArray := ⟨(le4 n).toArray⟩
theorem fourB_L (n : Nat) : L (fourB n) = le4 n := L_mk _
theorem fourB_size (n : Nat) : (fourB n).size = 4 := size_mk _
theorem four_eq (n : Nat) : word_Four.f (n : Int) = some (fourB n) := by
  unfold word_Four.f
  refine congrArg some (L_inj ?_)
  rw [fourB_L]
  show (strOfNums _).data.toList = _
  rw [strOfNums_data]
  simp only [List.map_cons, List.map_nil, le4]
  rw [show ((n : Int) % 256).toNat = n % 256 by omega, show ((n : Int) / 256 % 256).toNat = (n / 256) % 256 by omega, show ((n : Int) / 65536 % 256).toNat = (n / 65536) % 256 by omega, show ((n : Int) / 16777216 % 256).toNat = (n / 16777216) % 256 by omega, ofNat_mod, ofNat_mod, ofNat_mod, ofNat_mod]
def zerosB (n : Nat) : ByteArray := ⟨(List.replicate n (0 : UInt8)).toArray⟩
theorem zerosB_L (n : Nat) : L (zerosB n) = List.replicate n 0 := L_mk _
theorem zerosB_size (n : Nat) : (zerosB n).size = n := by unfold zerosB; rw [size_mk, List.length_replicate]
theorem repeat_eq (n : Nat) (h : n ≤ 140737488300000) : strings_Repeat.f (⟨#[0]⟩ : ByteArray) (n : Int) = some (zerosB n) := by
  unfold strings_Repeat.f
  have e : (⟨#[0]⟩ : ByteArray).size = 1 := rfl
  rw [if_pos (by omega), if_pos (by omega), if_pos (by rw [e]; omega), Int.toNat_natCast]
  refine congrArg some (L_inj ?_)
  rw [zerosB_L, L_mk]
  have := Lib.repeatL_replicate 0 1 n
  rw [Nat.mul_one] at this
  exact this
def repB (b n : Nat) : ByteArray := ⟨(List.replicate n (UInt8.ofNat b)).toArray⟩
theorem repB_zero (n : Nat) : repB 0 n = zerosB n := rfl
theorem repB_L (b n : Nat) : L (repB b n) = List.replicate n (UInt8.ofNat b) := L_mk _
theorem repB_size (b n : Nat) : (repB b n).size = n := by unfold repB; rw [size_mk, List.length_replicate]
theorem rrepeat_loop (b n : Nat) (h : n ≤ 140737488300000) : ∀ (d i : Nat), i ≤ n → n - i = d → Ev (fun k => withyref01_Repeat.l0 k (b : Int) (n : Int) (List.replicate i (b : Int)) (i : Int)) (repB b n) := by
  intro d
  induction d with
  | zero =>
    intro i h1 hd
    obtain rfl : i = n := by omega
    refine ev_step ?_
    simp only [withyref01_Repeat.l0]
    refine ev_neg (by omega) (ev_some' (L_inj ?_))
    rw [repB_L]
    show (strOfNums _).data.toList = _
    rw [strOfNums_data, List.map_replicate]
    rfl
  | succ d ih =>
    intro i h1 hd
    refine ev_step ?_
    simp only [withyref01_Repeat.l0]
    refine ev_pos (by omega) (ev_pos (by simp; omega) ?_)
    rw [w64_succ (by omega), ← List.replicate_succ']
    exact ih (i + 1) (by omega) (by omega)
theorem rrepeat_ev (b n : Nat) (h : n ≤ 140737488300000) : Ev (fun k => withyref01_Repeat.f k (b : Int) (n : Int)) (repB b n) := by
  unfold withyref01_Repeat.f
  exact rrepeat_loop b n h n 0 (Nat.zero_le _) rfl
theorem bytes_ev (a b c d : Int) : Ev (fun k => head_bytes.f k [a, b, c, d]) (strOfNums [a % 256, b % 256, c % 256, d % 256]) := by
  refine ⟨5, fun k hk => ?_⟩
  obtain ⟨m, rfl⟩ : ∃ m, k = m + 5 := ⟨k - 5, by omega⟩
  simp [head_bytes.f, head_bytes.l0, rd, wrap64]
end Go.Proofs.Ytnfnmjjdcaphjaa.Spec
namespace Go.Proofs.Ytnfnmjjdcaphjaa.Spec
open Go.RowKit Go.Proofs.YtnfnmjjdcaphjaaW.PrintWords Go.Proofs.YtnfnmjjdcaphjaaW.PrintLast Go.Proofs.YtnfnmjjdcaphjaaW.PrintMore Go.Proofs.YtnfnmjjdcaphjaaEv Go.Proofs.YtnfnmjjdcaphjaaSum Go.Proofs.YtnfnmjjdcaphjaaHead Go.Proofs.Ytnfnmjjdcaphjaa.P

/-! ### numbers of bytes -/
theorem bt_getD (s : ByteArray) (i : Nat) : bt s (i : Int) = (((L s).getD i 0).toNat : Int) := by
  rcases Nat.lt_or_ge i (L s).length with h | h
  · rw [bt_L s i h, List.getD_eq_getElem?_getD, List.getElem?_eq_getElem h]
    rfl
  · have hl := L_length s
    unfold bt
    rw [dif_neg (by rw [Int.toNat_natCast]; omega), List.getD_eq_getElem?_getD, List.getElem?_eq_none h]
    rfl
theorem or_at (x b e : Nat) (hx : x < 2 ^ e) (hb : b < 256) (he : e ≤ 24) : Go.bits .or .u32 (x : Int) (shl .u32 ((b : Int) % 4294967296) (e : Int)) = ((x + b * 2 ^ e : Nat) : Int) := by
  have hp : 2 ^ e ≤ 2 ^ 24 := Nat.pow_le_pow_right (by omega) he
  have hm : b * 2 ^ e ≤ 255 * 2 ^ 24 := Nat.mul_le_mul (by omega) hp
  have hw : shl .u32 ((b : Int) % 4294967296) (e : Int) = ((b * 2 ^ e : Nat) : Int) := by
    unfold shl
    have hb32 : IntKind.u32.bits = 32 := rfl
    rw [IntKind.wrap_u32', Int.toNat_natCast, hb32, Nat.min_eq_left (by omega), show (b : Int) % 4294967296 = (b : Int) by omega]
    have e1 : (b : Int) * 2 ^ e = ((b * 2 ^ e : Nat) : Int) := by rw [Int.natCast_mul, Int.natCast_pow]; rfl
    rw [e1]
    omega
  rw [hw, u32_or_nat _ _ (by omega) (by omega)]
  have := Nat.two_pow_add_eq_or_of_lt hx b
  rw [Nat.mul_comm b, Nat.or_comm, ← this]
  exact congrArg _ (Nat.add_comm _ _)
theorem getD_drop (l : List UInt8) (i j : Nat) : (l.drop i).getD j 0 = l.getD (i + j) 0 := by simp [List.getD_eq_getElem?_getD, List.getElem?_drop]
theorem read_ev (s : ByteArray) (i : Nat) (h : i + 4 ≤ s.size) (hs : s.size ≤ 140737488300000) : Ev (fun k => word_Read.f k s (i : Int)) ((rd4 ((L s).drop i) : Int), 0) := by
  have hl := L_length s
  unfold word_Read.f
  refine ev_neg (by omega) (ev_step ?_)
  simp only [word_Read.j0]
  refine ev_neg (by simp; omega) (ev_neg (by rw [w64 (by omega) (by omega)]; omega) ?_)
  have b0 := u8_lt ((L s).getD i 0)
  have b1 := u8_lt ((L s).getD (i + 1) 0)
  have b2 := u8_lt ((L s).getD (i + 2) 0)
  have b3 := u8_lt ((L s).getD (i + 3) 0)
  refine ev_step ?_
  simp only [word_Read.l0]
  rw [show wrap64 ((i : Int) + 0) = (i : Int) by rw [w64 (by omega) (by omega)]; omega, show wrap64 (8 * 0) = ((0 : Nat) : Int) by unfold wrap64; omega, bt_getD, show (0 : Int) = ((0 : Nat) : Int) from rfl, or_at 0 _ 0 (by omega) b0 (by omega)]
  refine ev_pos (by omega) (ev_pos (by omega) (ev_pos (by omega) (ev_pos (by omega) (ev_step ?_))))
  simp only [word_Read.l0]
  rw [show wrap64 ((i : Int) + wrap64 (((0 : Nat) : Int) + 1)) = ((i + 1 : Nat) : Int) by rw [w64 (x := ((0 : Nat) : Int) + 1) (by omega) (by omega), w64 (by omega) (by omega)]; omega, show wrap64 (8 * wrap64 (((0 : Nat) : Int) + 1)) = ((8 : Nat) : Int) by unfold wrap64; omega, bt_getD, or_at _ _ 8 (by omega) b1 (by omega)]
  refine ev_pos (by unfold wrap64; omega) (ev_pos (by omega) (ev_pos (by omega) (ev_pos (by omega) (ev_step ?_))))
  simp only [word_Read.l0]
  rw [show wrap64 (wrap64 (((0 : Nat) : Int) + 1) + 1) = 2 by unfold wrap64; omega, show wrap64 ((i : Int) + 2) = ((i + 2 : Nat) : Int) by rw [w64 (by omega) (by omega)]; omega, show wrap64 (8 * 2) = ((16 : Nat) : Int) by unfold wrap64; omega, bt_getD, or_at _ _ 16 (by omega) b2 (by omega)]
  refine ev_pos (by omega) (ev_pos (by omega) (ev_pos (by omega) (ev_pos (by omega) (ev_step ?_))))
  simp only [word_Read.l0]
  rw [show wrap64 (2 + 1) = 3 by unfold wrap64; omega, show wrap64 ((i : Int) + 3) = ((i + 3 : Nat) : Int) by rw [w64 (by omega) (by omega)]; omega, show wrap64 (8 * 3) = ((24 : Nat) : Int) by unfold wrap64; omega, bt_getD, or_at _ _ 24 (by omega) b3 (by omega)]
  refine ev_pos (by omega) (ev_pos (by omega) (ev_pos (by omega) (ev_pos (by omega) (ev_step ?_))))
  simp only [word_Read.l0]
  refine ev_neg (by unfold wrap64; omega) (ev_some' ?_)
  unfold rd4
  rw [getD_drop, getD_drop, getD_drop, getD_drop]
  refine Prod.ext ?_ rfl
  simp only [Nat.add_zero]
  omega
end Go.Proofs.Ytnfnmjjdcaphjaa.Spec
