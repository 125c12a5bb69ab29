/- What is proved here: that col's Put answers just a column's bytes. Conditions: texts of at most 1000 bytes. -/
import Derived.Test.YtjfgeppfkhaliaaDoorCSpec
set_option linter.unusedVariables false
set_option linter.unusedSimpArgs false
namespace Go.Proofs.YtjfgeppfkhaliaaDoor.Spec
open Go.RowKit Go.Proofs.YtjfgeppfkhaliaaDoorW.PrintWords Go.Proofs.YtjfgeppfkhaliaaDoorW.PrintLast Go.Proofs.YtjfgeppfkhaliaaDoorW.PrintMore Go.Proofs.YtjfgeppfkhaliaaDoorEv Go.Proofs.YtjfgeppfkhaliaaDoorCol Go.Proofs.YtjfgeppfkhaliaaDoorR Go.Proofs.YtjfgeppfkhaliaaDoor.P

theorem xor_hi (x : Nat) (h : x < 9223372036854775808) : x ^^^ 9223372036854775808 = x + 9223372036854775808 := by
  have e : (9223372036854775808 : Nat) = 2 ^ 63 := by decide
  rw [e] at h ⊢
  apply Nat.eq_of_testBit_eq
  intro i
  rw [Nat.testBit_xor, Nat.add_comm]
  rcases Nat.lt_trichotomy i 63 with q | q | q
  · rw [Nat.testBit_two_pow_add_gt q, Nat.testBit_two_pow_of_ne (by omega)]; simp
  · subst q
    rw [Nat.testBit_two_pow_add_eq, Nat.testBit_two_pow_self, Nat.testBit_lt_two_pow h]; rfl
  · have h1 : x < 2 ^ i := Nat.lt_trans h (Nat.pow_lt_pow_right (by omega) q)
    have h2 : 2 ^ 63 + x < 2 ^ i := by
      have : 2 ^ (63 + 1) ≤ 2 ^ i := Nat.pow_le_pow_right (by omega) q
      rw [Nat.pow_succ] at this
      omega
    rw [Nat.testBit_lt_two_pow h1, Nat.testBit_lt_two_pow h2, Nat.testBit_two_pow_of_ne (by omega)]; rfl
theorem xor_lo (x : Nat) (h : x < 9223372036854775808) : (x + 9223372036854775808) ^^^ 9223372036854775808 = x := by
  rw [← xor_hi x h, Nat.xor_assoc, Nat.xor_self, Nat.xor_zero]
theorem flip_eq (i : Int) (h0 : -9223372036854775808 ≤ i) (h1 : i ≤ 9223372036854775807) : Go.bits .xor .u64 (IntKind.u64.wrap i) 9223372036854775808 = (((i + 9223372036854775808).toNat : Nat) : Int) := by
  rw [IntKind.wrap_u64, show (9223372036854775808 : Int) = ((9223372036854775808 : Nat) : Int) from rfl]
  by_cases h : 0 ≤ i
  · obtain ⟨n, rfl⟩ := Int.eq_ofNat_of_zero_le h
    rw [show ((n : Nat) : Int) % 18446744073709551616 = ((n : Nat) : Int) by omega, u64_xor_nat _ _ (by omega) (by omega), xor_hi n (by omega)]
    omega
  · obtain ⟨n, hn⟩ : ∃ n : Nat, i = (n : Int) - 9223372036854775808 := ⟨(i + 9223372036854775808).toNat, by omega⟩
    rw [show i % 18446744073709551616 = ((n + 9223372036854775808 : Nat) : Int) by omega, u64_xor_nat _ _ (by omega) (by omega), xor_lo n (by omega)]
    omega
theorem unflip_eq (v : Nat) (h : v < 18446744073709551616) : wrap64 (Go.bits .xor .u64 (v : Int) 9223372036854775808) = (v : Int) - 9223372036854775808 := by
  rw [show (9223372036854775808 : Int) = ((9223372036854775808 : Nat) : Int) from rfl, u64_xor_nat _ _ h (by omega)]
  by_cases q : v < 9223372036854775808
  · rw [xor_hi v q]; unfold wrap64; omega
  · obtain ⟨n, rfl⟩ : ∃ n : Nat, v = n + 9223372036854775808 := ⟨v - 9223372036854775808, by omega⟩
    rw [xor_lo n (by omega), w64 (by omega) (by omega)]; omega
theorem escL_le (l : List UInt8) : (escL l).length ≤ 2 * l.length := by rw [escL_len]; have := List.count_le_length (a := (0 : UInt8)) (l := l); omega
theorem rep_eq (s : ByteArray) (h : s.size ≤ 1000) : strings_ReplaceAll.f s (⟨#[0]⟩ : ByteArray) (⟨#[0, 255]⟩ : ByteArray) = some (B (escL (L s))) := by
  unfold strings_ReplaceAll.f
  rw [if_pos (by rw [L_toList]), if_pos (by rw [L_toList]), if_pos (by omega)]
  rfl
theorem app_eq (a b : List UInt8) (x y : ByteArray) (hx : x = B a) (hy : y = B b) (h : a.length + b.length ≤ 9223372036854775807) : col_Put.app x y = some (B (a ++ b)) := by
  subst hx hy
  unfold col_Put.app
  rw [if_pos (by rw [B_size, B_size]; exact h)]
  exact congrArg some (L_inj (by rw [L_append, B_L, B_L, B_L]))
theorem one_eq (n : Nat) (h : n < 256) : strOfNums [(n : Int)] = B [UInt8.ofNat n] := by rw [← str_one, show (n : Int) % 256 = (n : Int) by omega]
def putV (a0 a1 a2 : Int) (s : ByteArray) : ByteArray × Int := if Right ⟨a0, a1, a2, L s⟩ then (B (cput ⟨a0, a1, a2, L s⟩), 0) else (⟨#[]⟩, 3)
theorem cput_ev (a0 a1 a2 : Int) (s : ByteArray) (b : Bd ⟨a0, a1, a2, L s⟩) (hs : s.size ≤ 1000) : Ev (fun k => col_Put.f k a0 a1 a2 s) (putV a0 a1 a2 s) := by
  have b1 : -9223372036854775808 ≤ a1 := b.i0
  have b2 : a1 ≤ 9223372036854775807 := b.i1
  have b3 : 0 ≤ a2 := b.u0
  have b4 : a2 ≤ 18446744073709551615 := b.u1
  unfold col_Put.f putV
  refine ev_bind (right_ev a0 a1 a2 s b3) ?_
  by_cases hr : Right ⟨a0, a1, a2, L s⟩
  rotate_left
  · exact ev_neg (by rw [decide_eq_false hr]; decide) (ev_some' (by rw [if_neg hr]))
  refine ev_pos (decide_eq_true hr) ?_
  rw [if_pos hr]
  obtain ⟨n, rfl⟩ := Int.eq_ofNat_of_zero_le b3
  rcases hr with ⟨h1, h2, h3, h4⟩ | ⟨h1, h2, h3, h4⟩ | ⟨h1, h2, h3⟩ | ⟨h1, h2, h3⟩ | ⟨h1, h2, h3⟩ <;> simp only at h1 h2 h3
  · subst h1
    exact ev_pos rfl (ev_some' (by rw [show strOfNums [16] = B [16] from one_eq 16 (by omega)]; rfl))
  · subst h1
    refine ev_neg (by omega) (ev_pos rfl (ev_some' ?_))
    have : n = 0 ∨ n = 1 := by omega
    rcases this with rfl | rfl
    · rw [w64 (x := ((0 : Nat) : Int)) (by omega) (by omega), w64 (by omega) (by omega)]
      exact congrArg (fun x => (x, (0 : Int))) (one_eq 32 (by omega))
    · rw [w64 (x := ((1 : Nat) : Int)) (by omega) (by omega), w64 (by omega) (by omega)]
      exact congrArg (fun x => (x, (0 : Int))) (one_eq 33 (by omega))
  · subst h1
    refine ev_neg (by omega) (ev_neg (by omega) (ev_pos rfl ?_))
    rw [flip_eq a1 b1 b2]
    refine ev_bind_now (wide_eq _) (ev_bind_now (app_eq [48] (be 8 (a1 + 9223372036854775808).toNat) _ _ (one_eq 48 (by omega)) rfl (by rw [be_length]; simp)) (ev_some' rfl))
  · subst h1
    refine ev_neg (by omega) (ev_neg (by omega) (ev_neg (by omega) (ev_pos rfl ?_)))
    have hl := wput_length n
    have := wcount_le n
    refine ev_bind (put_ev n (by omega)) (ev_bind_now (app_eq [64] (wput n) _ _ (one_eq 64 (by omega)) rfl (by simp; omega)) (ev_some' ?_))
    rfl
  · subst h1
    refine ev_neg (by omega) (ev_neg (by omega) (ev_neg (by omega) (ev_neg (by omega) (ev_pos rfl ?_))))
    have := escL_le (L s)
    rw [L_length] at this
    refine ev_bind_now (rep_eq s hs) (ev_bind_now (app_eq [80] (escL (L s)) _ _ (one_eq 80 (by omega)) rfl (by simp; omega)) (ev_bind_now (app_eq ([80] ++ escL (L s)) [0, 1] _ _ rfl rfl (by simp; omega)) (ev_some' ?_)))
    rfl
end Go.Proofs.YtjfgeppfkhaliaaDoor.Spec
