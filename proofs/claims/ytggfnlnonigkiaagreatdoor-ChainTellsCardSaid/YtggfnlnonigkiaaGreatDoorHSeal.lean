/- What is proved here: what sealing of a page answers, in the program. Conditions: sizes within the form's reach. -/
import Derived.Test.YtggfnlnonigkiaaGreatDoorPS
import Derived.Test.YtggfnlnonigkiaaGreatDoorHead
set_option linter.unusedVariables false
set_option linter.unusedSimpArgs false
namespace Go.Proofs.YtggfnlnonigkiaaGreatDoor.HSpec
open Go.RowKit Go.Proofs.YtggfnlnonigkiaaGreatDoorW.PrintWords Go.Proofs.YtggfnlnonigkiaaGreatDoorW.PrintLast Go.Proofs.YtggfnlnonigkiaaGreatDoorW.PrintMore Go.Proofs.YtggfnlnonigkiaaGreatDoorEv Go.Proofs.YtggfnlnonigkiaaGreatDoorSum Go.Proofs.YtggfnlnonigkiaaGreatDoorHead Go.Proofs.YtggfnlnonigkiaaGreatDoor.P
theorem sum_shift_eq (r : Nat) (h : r < 4294967296) : sum_shift (r : Int) = (sh r : Int) := by
  unfold sum_shift sh
  rw [show (1 : Int) = ((1 : Nat) : Int) from rfl, u32_and_nat r 1 h (by omega), Nat.and_one_is_mod, show (r : Int) / 2 = ((r / 2 : Nat) : Int) by omega, show (2197175160 : Int) = ((2197175160 : Nat) : Int) from rfl, u32_xor_nat _ _ (by omega) (by omega)]
  by_cases hp : r % 2 = 1
  · rw [if_pos hp, if_pos (by omega)]
  · rw [if_neg hp, if_neg (by omega)]
theorem sum_stepN_eq : ∀ (n r : Nat), r < 4294967296 → sum_stepN n (r : Int) = (shN n r : Int)
  | 0, r, h => rfl
  | n + 1, r, h => by
    show sum_stepN n (sum_shift (r : Int)) = _
    rw [sum_shift_eq r h, sum_stepN_eq n _ (sh_lt h)]
    rfl
theorem sum_turn_eq (r : Nat) (b : UInt8) (h : r < 4294967296) : sum_turn (r : Int) (b.toNat : Int) = (shN 8 (r ^^^ b.toNat) : Int) := by
  have hb := u8_lt b
  have hx : (r % 256) ^^^ b.toNat < 256 := Nat.xor_lt_two_pow (n := 8) (by omega) (by omega)
  unfold sum_turn
  rw [show (r : Int) % 256 = ((r % 256 : Nat) : Int) by omega, u8_xor_nat _ _ (by omega) hb, sum_stepN_eq 8 _ (by omega), show (r : Int) / 256 = ((r / 256 : Nat) : Int) by omega, u32_xor_nat _ _ (shN_lt 8 (by omega)) (by omega), ← turn_eq]
theorem sum_fold_eq : ∀ (l : List UInt8) (r : Nat), r < 4294967296 → (l.map fun b => (b.toNat : Int)).foldl sum_turn (r : Int) = (reg r l : Int)
  | [], r, h => rfl
  | b :: l, r, h => by
    rw [List.map_cons, List.foldl_cons, sum_turn_eq r b h, sum_fold_eq l _ (shN_lt 8 (Nat.xor_lt_two_pow (n := 32) (by omega) (by have := u8_lt b; omega)))]
    rfl
theorem sum_eq (s : ByteArray) (h : s.size ≤ 9223372036854775806) : sum_Table.f s = some (crc (L s) : Int) := by
  unfold sum_Table.f sum_More.f
  have e1 : Go.bits .xor .u32 IntKind.u32.max 0 = ((4294967295 : Nat) : Int) := u32_xor_nat 4294967295 0 (by omega) (by omega)
  have h2 := reg_lt (L s) 4294967295 (by omega)
  have e2 : (bytesOf s).foldl sum_turn ((4294967295 : Nat) : Int) = (reg 4294967295 (L s) : Int) := sum_fold_eq (L s) 4294967295 (by omega)
  have e3 : Go.bits .xor .u32 IntKind.u32.max (reg 4294967295 (L s) : Int) = ((4294967295 ^^^ reg 4294967295 (L s) : Nat) : Int) := u32_xor_nat 4294967295 _ (by omega) h2
  rw [if_pos h, Option.bind_some, e1, e2, e3, not_eq _ h2]
  rfl
theorem ofNat_mod (n : Nat) : UInt8.ofNat (n % 256) = UInt8.ofNat n := by
  rw [← UInt8.toNat_inj]
  simp
def fourB (n : Nat) : ByteArray := ⟨(le4 n).toArray⟩
theorem fourB_L (n : Nat) : L (fourB n) = le4 n := L_mk _
theorem fourB_size (n : Nat) : (fourB n).size = 4 := size_mk _
theorem four_eq (n : Nat) : word_Four.f (n : Int) = some (fourB n) := by
  unfold word_Four.f
  refine congrArg some (L_inj ?_)
  rw [fourB_L]
  show (strOfNums _).data.toList = _
  rw [strOfNums_data]
  simp only [List.map_cons, List.map_nil, le4]
  rw [show ((n : Int) % 256).toNat = n % 256 by omega, show ((n : Int) / 256 % 256).toNat = (n / 256) % 256 by omega, show ((n : Int) / 65536 % 256).toNat = (n / 65536) % 256 by omega, show ((n : Int) / 16777216 % 256).toNat = (n / 16777216) % 256 by omega, ofNat_mod, ofNat_mod, ofNat_mod, ofNat_mod]
def zerosB (n : Nat) : ByteArray := ⟨(List.replicate n (0 : UInt8)).toArray⟩
theorem zerosB_L (n : Nat) : L (zerosB n) = List.replicate n 0 := L_mk _
theorem zerosB_size (n : Nat) : (zerosB n).size = n := by unfold zerosB; rw [size_mk, List.length_replicate]
theorem repeat_eq (n : Nat) (h : n ≤ 140737488300000) : strings_Repeat.f (⟨#[0]⟩ : ByteArray) (n : Int) = some (zerosB n) := by
  unfold strings_Repeat.f
  have e : (⟨#[0]⟩ : ByteArray).size = 1 := rfl
  rw [if_pos (by omega), if_pos (by omega), if_pos (by rw [e]; omega), Int.toNat_natCast]
  refine congrArg some (L_inj ?_)
  rw [zerosB_L, L_mk]
  have := Lib.repeatL_replicate 0 1 n
  rw [Nat.mul_one] at this
  exact this
theorem bytes_ev (a b c d : Int) : Ev (fun k => head_bytes.f k [a, b, c, d]) (strOfNums [a % 256, b % 256, c % 256, d % 256]) := by
  refine ⟨5, fun k hk => ?_⟩
  obtain ⟨m, rfl⟩ : ∃ m, k = m + 5 := ⟨k - 5, by omega⟩
  simp [head_bytes.f, head_bytes.l0, rd, wrap64]
def Size (p : Nat) : Prop := p = 128 ∨ p = 256 ∨ p = 512 ∨ p = 1024
def hdOf (a0 a1 a2 a3 a4 : Int) : Hd := ⟨a0.toNat, a1.toNat, a2.toNat, a3.toNat, a4.toNat⟩
def sealed (a0 a1 a2 a3 a4 : Int) (b : ByteArray) (p : Int) : ByteArray × Int := if head_may.code a0 a1 a2 a3 a4 b p = 0 then (pageB (hdOf a0 a1 a2 a3 a4) (L b) p.toNat, 0) else (⟨#[]⟩, head_may.code a0 a1 a2 a3 a4 b p)
theorem sized_iff (p : Int) : head_may.sized p = true ↔ p = 128 ∨ p = 256 ∨ p = 512 ∨ p = 1024 := by simp [head_may.sized, or_assoc]
theorem right_iff (a0 a1 a2 a3 a4 : Int) : head_may.right a0 a1 a2 a3 a4 = true ↔ 1 ≤ a0 ∧ a0 < 5 ∧ 0 ≤ a1 ∧ a1 < 256 ∧ 0 ≤ a2 ∧ a2 < 65536 ∧ 0 ≤ a3 ∧ a3 < 4096 ∧ 0 ≤ a4 ∧ a4 < 4096 := by
  simp [head_may.right, and_assoc]
theorem code_zero {a0 a1 a2 a3 a4 : Int} {b : ByteArray} {p : Int} (h : head_may.code a0 a1 a2 a3 a4 b p = 0) : ∃ (x : Hd) (P : Nat), x.ok ∧ a0 = x.k ∧ a1 = x.l ∧ a2 = x.c ∧ a3 = x.r ∧ a4 = x.s ∧ p = P ∧ Size P ∧ b.size + 16 ≤ P := by
  unfold head_may.code at h
  by_cases h1 : head_may.sized p = true
  · rw [if_pos h1] at h
    by_cases h2 : head_may.right a0 a1 a2 a3 a4 = true
    · rw [if_pos h2] at h
      by_cases h3 : p - 16 < (b.size : Int)
      · rw [if_pos h3] at h; cases h
      · have h1' := (sized_iff p).1 h1
        have h2' := (right_iff _ _ _ _ _).1 h2
        refine ⟨hdOf a0 a1 a2 a3 a4, p.toNat, ?_, ?_, ?_, ?_, ?_, ?_, ?_, ?_, ?_⟩
        · unfold Hd.ok hdOf; simp only; omega
        · show a0 = ((a0.toNat : Nat) : Int); omega
        · show a1 = ((a1.toNat : Nat) : Int); omega
        · show a2 = ((a2.toNat : Nat) : Int); omega
        · show a3 = ((a3.toNat : Nat) : Int); omega
        · show a4 = ((a4.toNat : Nat) : Int); omega
        · omega
        · unfold Size; omega
        · omega
    · rw [if_neg h2] at h; cases h
  · rw [if_neg h1] at h; cases h
theorem code_of {x : Hd} (ok : x.ok) {b : ByteArray} {P : Nat} (hP : Size P) (hb : b.size + 16 ≤ P) : head_may.code x.k x.l x.c x.r x.s b P = 0 := by
  obtain ⟨h1, h2, h3, h4, h5, h6⟩ := ok
  unfold Size at hP
  unfold head_may.code
  rw [if_pos ((sized_iff _).2 (by omega)), if_pos ((right_iff _ _ _ _ _).2 (by omega)), if_neg (by omega)]
theorem hdOf_cast (x : Hd) : hdOf x.k x.l x.c x.r x.s = x := by cases x; simp [hdOf]
theorem sealed_of {x : Hd} (ok : x.ok) {b : ByteArray} {P : Nat} (hP : Size P) (hb : b.size + 16 ≤ P) : sealed x.k x.l x.c x.r x.s b P = (pageB x (L b) P, 0) := by
  unfold sealed
  rw [if_pos (code_of ok hP hb), hdOf_cast]
  rfl
theorem sealed_not {a0 a1 a2 a3 a4 : Int} {b : ByteArray} {p : Int} (h : ¬ head_may.code a0 a1 a2 a3 a4 b p = 0) : sealed a0 a1 a2 a3 a4 b p = (⟨#[]⟩, head_may.code a0 a1 a2 a3 a4 b p) := if_neg h
def headB (x : Hd) : ByteArray := ⟨(front x).toArray⟩
theorem headB_L (x : Hd) : L (headB x) = front x := L_mk _
theorem headB_size (x : Hd) : (headB x).size = 12 := size_mk _
theorem front_four (x : Hd) : (strOfNums [(x.k : Int) % 256, (x.l : Int) % 256, (x.c : Int) % 256, ((x.c / 256 : Nat) : Int) % 256] ++ fourB x.r) ++ fourB x.s = headB x := by
  refine L_inj ?_
  rw [headB_L, L_append, L_append, fourB_L, fourB_L]
  show (strOfNums _).data.toList ++ _ ++ _ = _
  rw [strOfNums_data]
  simp only [List.map_cons, List.map_nil, front]
  rw [show ((x.k : Int) % 256).toNat = x.k % 256 by omega, show ((x.l : Int) % 256).toNat = x.l % 256 by omega, show ((x.c : Int) % 256).toNat = x.c % 256 by omega, show (((x.c / 256 : Nat) : Int) % 256).toNat = (x.c / 256) % 256 by omega, ofNat_mod, ofNat_mod, ofNat_mod, ofNat_mod]
theorem size4 (a b c d : Int) : (strOfNums [a, b, c, d]).size = 4 := strOfNums_size _
theorem z4_size : (⟨#[0, 0, 0, 0]⟩ : ByteArray).size = 4 := rfl
theorem seal_ev (a0 a1 a2 a3 a4 : Int) (b : ByteArray) (p : Int) : Ev (fun k => head_Seal.f k a0 a1 a2 a3 a4 b p) (sealed a0 a1 a2 a3 a4 b p) := by
  unfold head_Seal.f
  by_cases hc : head_may.code a0 a1 a2 a3 a4 b p = 0
  · obtain ⟨x, P, ok, rfl, rfl, rfl, rfl, rfl, rfl, hP, hb⟩ := code_zero hc
    rw [sealed_of ok hP hb]
    obtain ⟨o1, o2, o3, o4, o5, o6⟩ := ok
    unfold Size at hP
    refine ev_bind_now (show head_may.f _ _ _ _ _ _ _ = some 0 from congrArg some hc) (ev_pos rfl ?_)
    rw [Int.tdiv_eq_ediv_of_nonneg (by omega), show (x.c : Int) / 256 = ((x.c / 256 : Nat) : Int) by omega, w64 (x := ((x.c / 256 : Nat) : Int)) (by omega) (by omega), show (x.r : Int) % 4294967296 = (x.r : Int) by omega, show (x.s : Int) % 4294967296 = (x.s : Int) by omega]
    refine ev_bind (bytes_ev _ _ _ _) (ev_bind_now (four_eq _) (ev_pos (by rw [size4, fourB_size]; omega) (ev_bind_now (four_eq _) (ev_pos (by rw [ByteArray.size_append, size4, fourB_size, fourB_size]; omega) ?_))))
    rw [front_four]
    have hs := headB_size x
    refine ev_pos (by omega) (ev_pos (by rw [ByteArray.size_append, hs, z4_size]; omega) ?_)
    have hs2 : ((headB x ++ (⟨#[0, 0, 0, 0]⟩ : ByteArray)) ++ b).size = 16 + b.size := by rw [ByteArray.size_append, ByteArray.size_append, hs, z4_size]
    rw [hs2, w64 (by omega) (by omega), show (P : Int) - ((16 + b.size : Nat) : Int) = ((P - 16 - b.size : Nat) : Int) by omega]
    refine ev_bind_now (repeat_eq _ (by omega)) ?_
    have hs3 : (((headB x ++ (⟨#[0, 0, 0, 0]⟩ : ByteArray)) ++ b) ++ zerosB (P - 16 - b.size)).size = P := by rw [ByteArray.size_append, hs2, zerosB_size]; omega
    have hL : L (((headB x ++ (⟨#[0, 0, 0, 0]⟩ : ByteArray)) ++ b) ++ zerosB (P - 16 - b.size)) = front x ++ [0, 0, 0, 0] ++ rest (L b) P := by
      rw [L_append, L_append, L_append, headB_L, zerosB_L, rest, L_length, List.append_assoc, List.append_assoc]
    refine ev_pos (by rw [zerosB_size]; omega) (ev_pos (by omega) (ev_pos (by rw [hs3]; omega) (ev_bind_now (sum_eq _ (by rw [hs3]; omega)) (ev_bind_now (four_eq _) ?_))))
    have hf := front_length x
    have e12 : L ((((headB x ++ (⟨#[0, 0, 0, 0]⟩ : ByteArray)) ++ b) ++ zerosB (P - 16 - b.size)).extract 0 12) = front x := by
      rw [L_to, hL, List.append_assoc, List.take_left' hf]
    have e16 : L ((((headB x ++ (⟨#[0, 0, 0, 0]⟩ : ByteArray)) ++ b) ++ zerosB (P - 16 - b.size)).extract 16 (((headB x ++ (⟨#[0, 0, 0, 0]⟩ : ByteArray)) ++ b) ++ zerosB (P - 16 - b.size)).size) = rest (L b) P := by
      rw [L_from, hL, List.drop_left' (by simp [hf])]
    have z12 := L_length ((((headB x ++ (⟨#[0, 0, 0, 0]⟩ : ByteArray)) ++ b) ++ zerosB (P - 16 - b.size)).extract 0 12)
    have z16 := L_length ((((headB x ++ (⟨#[0, 0, 0, 0]⟩ : ByteArray)) ++ b) ++ zerosB (P - 16 - b.size)).extract 16 (((headB x ++ (⟨#[0, 0, 0, 0]⟩ : ByteArray)) ++ b) ++ zerosB (P - 16 - b.size)).size)
    rw [e12] at z12
    rw [e16, rest_length (by rw [L_length]; omega)] at z16
    refine ev_pos (by rw [fourB_size]; omega) (ev_pos (by rw [hs3]; omega) (ev_pos (by rw [ByteArray.size_append, fourB_size]; omega) (ev_some' ?_)))
    refine Prod.ext (L_inj ?_) rfl
    rw [L_append, L_append, e12, e16, fourB_L, hL, pageB_L]
    rfl
  · rw [sealed_not hc]
    exact ev_bind_now rfl (ev_neg hc ev_some)
abbrev Opened := Int × Int × Int × Int × Int × ByteArray × Int
end Go.Proofs.YtggfnlnonigkiaaGreatDoor.HSpec
