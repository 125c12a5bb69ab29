/- What is proved here: the plain law of a page: no burst of at most four bytes, ahead of the sum or behind it, leaves its sum as it is. No program in sight. Conditions: as each theorem names them. -/
import Derived.Test.YtnfnmjjdcaphjaaHead
set_option linter.unusedVariables false
set_option linter.unusedSimpArgs false
namespace Go.Proofs.YtnfnmjjdcaphjaaBurst
open Go.RowKit Go.Proofs.YtnfnmjjdcaphjaaW.PrintWords Go.Proofs.YtnfnmjjdcaphjaaW.PrintMore Go.Proofs.YtnfnmjjdcaphjaaEv Go.Proofs.YtnfnmjjdcaphjaaSum Go.Proofs.YtnfnmjjdcaphjaaHead
theorem xor_cancel {a b c : Nat} (h : a ^^^ c = b ^^^ c) : a = b := by
  have := congrArg (· ^^^ c) h
  simp only [Nat.xor_assoc, Nat.xor_self, Nat.xor_zero] at this
  exact this
theorem sh_zero_of {c : Nat} (hc : c < 4294967296) (h : sh c = 0) : c = 0 := by
  unfold sh at h
  by_cases p : c % 2 = 1
  · rw [if_pos p] at h
    have h2 : c / 2 = 2197175160 := xor_cancel (c := 2197175160) (by rw [h, Nat.xor_self])
    omega
  · rw [if_neg p] at h
    omega
theorem sh_inj {a b : Nat} (ha : a < 4294967296) (hb : b < 4294967296) (h : sh a = sh b) : a = b := by
  have h1 : sh (a ^^^ b) = 0 := by rw [sh_xor, h, Nat.xor_self]
  have h2 := sh_zero_of (Nat.xor_lt_two_pow (n := 32) ha hb) h1
  exact xor_cancel (c := b) (by rw [h2, Nat.xor_self])
theorem shN_inj : ∀ (n : Nat) {a b : Nat}, a < 4294967296 → b < 4294967296 → shN n a = shN n b → a = b
  | 0, _, _, _, _, h => h
  | n + 1, a, b, ha, hb, h => sh_inj ha hb (shN_inj n (sh_lt ha) (sh_lt hb) h)
theorem shN_add : ∀ (a b r : Nat), shN (a + b) r = shN b (shN a r)
  | 0, b, r => by rw [Nat.zero_add]; rfl
  | a + 1, b, r => by
    rw [show a + 1 + b = (a + b) + 1 by omega]
    exact shN_add a b (sh r)
def val : List UInt8 → Nat
  | [] => 0
  | b :: t => b.toNat + 256 * val t
theorem val_lt : ∀ l : List UInt8, val l < 256 ^ l.length
  | [] => by simp [val]
  | b :: t => by
    have := val_lt t
    have hb := u8_lt b
    simp only [val, List.length_cons, Nat.pow_succ]
    omega
theorem val_inj : ∀ (x y : List UInt8), x.length = y.length → val x = val y → x = y
  | [], [], _, _ => rfl
  | [], _ :: _, h, _ => by simp at h
  | _ :: _, [], h, _ => by simp at h
  | a :: x, b :: y, h, e => by
    have ha := u8_lt a
    have hb := u8_lt b
    simp only [val] at e
    have e1 : a.toNat = b.toNat := by omega
    rw [UInt8.toNat_inj.1 e1, val_inj x y (by simpa using h) (by omega)]
theorem val_xor (b : UInt8) (v : Nat) : b.toNat + 256 * v = b.toNat ^^^ (256 * v) := by
  have hb := u8_lt b
  have h := split_256 (b.toNat + 256 * v)
  rw [show (b.toNat + 256 * v) % 256 = b.toNat by omega, show (b.toNat + 256 * v) / 256 = v by omega] at h
  exact h
theorem reg_val : ∀ (x : List UInt8) (r : Nat), reg r x = shN (8 * x.length) (r ^^^ val x)
  | [], r => by
    show r = shN 0 (r ^^^ 0)
    rw [Nat.xor_zero]
    rfl
  | b :: t, r => by
    have h1 : reg r (b :: t) = reg (shN 8 (r ^^^ b.toNat)) t := rfl
    rw [h1, reg_val t, show 8 * (b :: t).length = 8 + 8 * t.length by simp only [List.length_cons]; omega, shN_add, val, val_xor, ← Nat.xor_assoc, shN_xor 8 (r ^^^ b.toNat), shN_256]
theorem reg_inj : ∀ (q : List UInt8) {a b : Nat}, a < 4294967296 → b < 4294967296 → reg a q = reg b q → a = b
  | [], _, _, _, _, h => h
  | c :: q, a, b, ha, hb, h => by
    have hc := u8_lt c
    have xa : a ^^^ c.toNat < 4294967296 := Nat.xor_lt_two_pow (n := 32) ha (by omega)
    have xb : b ^^^ c.toNat < 4294967296 := Nat.xor_lt_two_pow (n := 32) hb (by omega)
    exact xor_cancel (shN_inj 8 xa xb (reg_inj q (shN_lt 8 xa) (shN_lt 8 xb) h))
theorem burst {p x y q : List UInt8} (hl : x.length = y.length) (h4 : x.length ≤ 4) (h : crc (p ++ x ++ q) = crc (p ++ y ++ q)) : x = y := by
  have h0 : (4294967295 : Nat) < 4294967296 := by omega
  have l1 := reg_lt (p ++ x ++ q) 4294967295 h0
  have l2 := reg_lt (p ++ y ++ q) 4294967295 h0
  have hr : reg 4294967295 (p ++ x ++ q) = reg 4294967295 (p ++ y ++ q) := by unfold crc at h; omega
  rw [reg_append, reg_append, reg_append, reg_append] at hr
  have lp := reg_lt p 4294967295 h0
  generalize reg 4294967295 p = r at hr lp
  have hx := reg_inj q (reg_lt x r lp) (reg_lt y r lp) hr
  rw [reg_val, reg_val, hl] at hx
  have v4 : ∀ z : List UInt8, z.length ≤ 4 → val z < 4294967296 := fun z hz => Nat.lt_of_lt_of_le (val_lt z) (Nat.le_trans (Nat.pow_le_pow_right (by omega) hz) (by decide))
  have xx : r ^^^ val x < 4294967296 := Nat.xor_lt_two_pow (n := 32) lp (v4 x h4)
  have xy : r ^^^ val y < 4294967296 := Nat.xor_lt_two_pow (n := 32) lp (v4 y (by omega))
  have := shN_inj _ xx xy hx
  rw [Nat.xor_comm r, Nat.xor_comm r] at this
  exact val_inj x y hl (xor_cancel this)
end Go.Proofs.YtnfnmjjdcaphjaaBurst
