/- What is proved here: the plain law of a page: its head, its sum, its body; the sum of bytes bit by bit, and byte by byte with what a byte's bits come to, is one; it is linear, and what is put in is never lost. Conditions: as each theorem names them. -/
import Derived.Test.YtnfnmjjdcaphjaaEv
import Derived.Laws.BitsAllLaws
set_option linter.unusedVariables false
set_option linter.unusedSimpArgs false
namespace Go.Proofs.YtnfnmjjdcaphjaaSum
open Go.RowKit Go.Proofs.YtnfnmjjdcaphjaaW.PrintWords Go.Proofs.YtnfnmjjdcaphjaaW.PrintMore Go.Proofs.YtnfnmjjdcaphjaaEv

/-- One bit. -/
def sh (r : Nat) : Nat := if r % 2 = 1 then (r / 2) ^^^ 2197175160 else r / 2
def shN : Nat → Nat → Nat
  | 0, r => r
  | n + 1, r => shN n (sh r)
theorem xor_half (a b : Nat) : (a ^^^ b) / 2 = (a / 2) ^^^ (b / 2) := Nat.xor_div_two
theorem xor_par (a b : Nat) : (a ^^^ b) % 2 = (a + b) % 2 := by
  have h : (a ^^^ b) % 2 ^ 1 = (a % 2 ^ 1) ^^^ (b % 2 ^ 1) := Nat.xor_mod_two_pow
  rw [Nat.pow_one] at h
  rw [h]
  rcases Nat.mod_two_eq_zero_or_one a with ha | ha <;> rcases Nat.mod_two_eq_zero_or_one b with hb | hb <;> rw [ha, hb]
  · show 0 = _; omega
  · show 1 = _; omega
  · show 1 = _; omega
  · show 0 = _; omega
theorem xor_swap (a b c : Nat) : (a ^^^ c) ^^^ (b ^^^ c) = a ^^^ b := by
  rw [Nat.xor_assoc, ← Nat.xor_assoc c b c, Nat.xor_comm c b, Nat.xor_assoc b c c, Nat.xor_self, Nat.xor_zero]
theorem sh_xor (a b : Nat) : sh (a ^^^ b) = sh a ^^^ sh b := by
  unfold sh
  have hp := xor_par a b
  rw [xor_half]
  rcases Nat.mod_two_eq_zero_or_one a with ha | ha <;> rcases Nat.mod_two_eq_zero_or_one b with hb | hb
  · rw [if_neg (by omega), if_neg (by omega), if_neg (by omega)]
  · rw [if_pos (by omega), if_neg (by omega), if_pos (by omega), Nat.xor_assoc]
  · rw [if_pos (by omega), if_pos (by omega), if_neg (by omega), Nat.xor_assoc, Nat.xor_assoc, Nat.xor_comm (b / 2)]
  · rw [if_neg (by omega), if_pos (by omega), if_pos (by omega), xor_swap]
theorem sh_zero : sh 0 = 0 := rfl
theorem shN_xor : ∀ (n a b : Nat), shN n (a ^^^ b) = shN n a ^^^ shN n b
  | 0, a, b => rfl
  | n + 1, a, b => by
    show shN n (sh (a ^^^ b)) = _
    rw [sh_xor, shN_xor n]
    rfl
theorem sh_lt {r : Nat} (h : r < 4294967296) : sh r < 4294967296 := by
  unfold sh
  split
  · exact Nat.xor_lt_two_pow (n := 32) (by omega) (by omega)
  · omega
theorem shN_lt : ∀ (n : Nat) {r : Nat}, r < 4294967296 → shN n r < 4294967296
  | 0, r, h => h
  | n + 1, r, h => shN_lt n (sh_lt h)
theorem sh_even (x : Nat) : sh (2 * x) = x := by
  unfold sh
  rw [if_neg (by omega)]
  omega
theorem shN_256 (h : Nat) : shN 8 (256 * h) = h := by
  show sh (sh (sh (sh (sh (sh (sh (sh (256 * h)))))))) = h
  rw [show 256 * h = 2 * (2 * (2 * (2 * (2 * (2 * (2 * (2 * h))))))) by omega]
  simp only [sh_even]
theorem split_256 (r : Nat) : r = (r % 256) ^^^ (256 * (r / 256)) := by
  have h1 : ((r % 256) ^^^ (256 * (r / 256))) % 2 ^ 8 = r % 256 := by
    rw [Nat.xor_mod_two_pow]
    simp
  have h2 : ((r % 256) ^^^ (256 * (r / 256))) / 2 ^ 8 = r / 256 := by
    rw [Nat.xor_div_two_pow]
    simp
  have := Nat.div_add_mod ((r % 256) ^^^ (256 * (r / 256))) (2 ^ 8)
  rw [h1, h2] at this
  omega
/-- A byte at once. -/
theorem turn_eq (r b : Nat) : shN 8 (r ^^^ b) = shN 8 ((r % 256) ^^^ b) ^^^ (r / 256) := by
  conv => lhs; rw [split_256 r]
  rw [Nat.xor_assoc, Nat.xor_comm (256 * _) b, ← Nat.xor_assoc, shN_xor, shN_256]

/-- What bytes leave of a register; their sum. -/
def reg (r : Nat) (l : List UInt8) : Nat := l.foldl (fun r b => shN 8 (r ^^^ b.toNat)) r
def crc (l : List UInt8) : Nat := 4294967295 - reg 4294967295 l
theorem u8_lt (b : UInt8) : b.toNat < 256 := by have := b.toNat_lt; omega
theorem reg_lt : ∀ (l : List UInt8) (r : Nat), r < 4294967296 → reg r l < 4294967296
  | [], r, h => h
  | b :: l, r, h => reg_lt l _ (shN_lt 8 (Nat.xor_lt_two_pow (n := 32) (by omega) (by have := u8_lt b; omega)))
theorem crc_lt (l : List UInt8) : crc l < 4294967296 := by unfold crc; omega
theorem reg_append (a b : List UInt8) (r : Nat) : reg r (a ++ b) = reg (reg r a) b := List.foldl_append
theorem not_eq (x : Nat) (h : x < 4294967296) : 4294967295 ^^^ x = 4294967295 - x := by
  apply Nat.eq_of_testBit_eq
  intro i
  have h1 := Nat.testBit_two_pow_sub_succ (n := 32) (x := x) (by omega) i
  rw [Nat.testBit_xor, show (4294967295 : Nat) - x = 2 ^ 32 - (x + 1) by omega, h1, show (4294967295 : Nat) = 2 ^ 32 - 1 from rfl, Nat.testBit_two_pow_sub_one]
  by_cases hi : i < 32
  · simp [hi]
  · have : x.testBit i = false := Nat.testBit_lt_two_pow (Nat.lt_of_lt_of_le (by omega : x < 2 ^ 32) (Nat.pow_le_pow_right (by omega) (by omega)))
    simp [hi, this]
end Go.Proofs.YtnfnmjjdcaphjaaSum
namespace Go.Proofs.YtnfnmjjdcaphjaaHead
open Go.RowKit Go.Proofs.YtnfnmjjdcaphjaaW.PrintWords Go.Proofs.YtnfnmjjdcaphjaaW.PrintMore Go.Proofs.YtnfnmjjdcaphjaaEv Go.Proofs.YtnfnmjjdcaphjaaSum

theorem L_mk (l : List UInt8) : L ⟨l.toArray⟩ = l := by simp
theorem size_mk (l : List UInt8) : (⟨l.toArray⟩ : ByteArray).size = l.length := by rw [← L_length, L_mk]
/-- Four bytes, the lowest one ahead. -/
def le4 (n : Nat) : List UInt8 := [UInt8.ofNat n, UInt8.ofNat (n / 256), UInt8.ofNat (n / 65536), UInt8.ofNat (n / 16777216)]
def rd4 (l : List UInt8) : Nat := (l.getD 0 0).toNat + 256 * (l.getD 1 0).toNat + 65536 * (l.getD 2 0).toNat + 16777216 * (l.getD 3 0).toNat
theorem rd4_le4 (n : Nat) (h : n < 4294967296) (x : List UInt8) : rd4 (le4 n ++ x) = n := by
  simp [rd4, le4]
  omega
theorem le4_length (n : Nat) : (le4 n).length = 4 := rfl
theorem le4_inj {m n : Nat} (hm : m < 4294967296) (hn : n < 4294967296) (h : le4 m = le4 n) : m = n := by
  have h1 := rd4_le4 m hm []
  have h2 := rd4_le4 n hn []
  rw [h] at h1
  omega
/-- A head. -/
structure Hd where
  k : Nat
  l : Nat
  c : Nat
  r : Nat
  s : Nat
deriving DecidableEq
def Hd.ok (h : Hd) : Prop := 1 ≤ h.k ∧ h.k < 5 ∧ h.l < 256 ∧ h.c < 65536 ∧ h.r < 4096 ∧ h.s < 4096
def front (h : Hd) : List UInt8 := [UInt8.ofNat h.k, UInt8.ofNat h.l, UInt8.ofNat h.c, UInt8.ofNat (h.c / 256)] ++ le4 h.r ++ le4 h.s
def rest (b : List UInt8) (p : Nat) : List UInt8 := b ++ List.replicate (p - 16 - b.length) 0
def sum (h : Hd) (b : List UInt8) (p : Nat) : Nat := crc (front h ++ [0, 0, 0, 0] ++ rest b p)
def page (h : Hd) (b : List UInt8) (p : Nat) : List UInt8 := front h ++ le4 (sum h b p) ++ rest b p
def pageB (h : Hd) (b : List UInt8) (p : Nat) : ByteArray := ⟨(page h b p).toArray⟩
theorem front_length (h : Hd) : (front h).length = 12 := rfl
theorem rest_length {b : List UInt8} {p : Nat} (h : b.length + 16 ≤ p) : (rest b p).length = p - 16 := by
  simp [rest]
  omega
theorem page_length {h : Hd} {b : List UInt8} {p : Nat} (hb : b.length + 16 ≤ p) : (page h b p).length = p := by
  simp only [page, List.length_append, front_length, le4_length, rest_length hb]
  omega
theorem pageB_L (h : Hd) (b : List UInt8) (p : Nat) : L (pageB h b p) = page h b p := L_mk _
theorem pageB_size {h : Hd} {b : List UInt8} {p : Nat} (hb : b.length + 16 ≤ p) : (pageB h b p).size = p := by rw [← L_length, pageB_L, page_length hb]
/-- What is read of bytes. -/
def got (l : List UInt8) : Hd := ⟨(l.getD 0 0).toNat, (l.getD 1 0).toNat, (l.getD 2 0).toNat + 256 * (l.getD 3 0).toNat, rd4 (l.drop 4), rd4 (l.drop 8)⟩
theorem got_front {h : Hd} (ok : h.ok) (x : List UInt8) : got (front h ++ x) = h := by
  obtain ⟨h1, h2, h3, h4, h5, h6⟩ := ok
  have e1 : (front h ++ x).drop 4 = le4 h.r ++ (le4 h.s ++ x) := by simp [front]
  have e2 : (front h ++ x).drop 8 = le4 h.s ++ x := by simp [front, le4]
  unfold got
  rw [e1, e2, rd4_le4 _ (by omega), rd4_le4 _ (by omega)]
  cases h
  simp [front] at *
  omega
theorem front_inj {g h : Hd} (og : g.ok) (oh : h.ok) (e : front g = front h) : g = h := by
  have h1 := got_front og []
  have h2 := got_front oh []
  rw [e] at h1
  exact h1.symm.trans h2
theorem page_drop (h : Hd) (b : List UInt8) (p : Nat) : (page h b p).drop 16 = rest b p := by
  have : (front h ++ le4 (sum h b p)).length = 16 := rfl
  unfold page
  rw [List.drop_append, this]
  simp [this]
theorem got_page {h : Hd} (ok : h.ok) (b : List UInt8) (p : Nat) : got (page h b p) = h := by
  unfold page
  rw [List.append_assoc]
  exact got_front ok _
/-- A page of a longer body, of bytes 0, is the same. -/
theorem rest_zeros (b : List UInt8) (n p : Nat) (h : b.length + n + 16 ≤ p) : rest (b ++ List.replicate n 0) p = rest b p := by
  unfold rest
  rw [List.append_assoc, List.length_append, List.length_replicate, List.replicate_append_replicate]
  congr 2
  omega
theorem rest_rest {b : List UInt8} {p : Nat} (h : b.length + 16 ≤ p) : rest (rest b p) p = rest b p := rest_zeros b (p - 16 - b.length) p (by omega)
theorem page_of_rest {h : Hd} {b c : List UInt8} {p : Nat} (e : rest b p = rest c p) : page h b p = page h c p := by
  unfold page sum
  rw [e]
theorem page_inj {g h : Hd} (og : g.ok) (oh : h.ok) {b c : List UInt8} {p : Nat} (e : page g b p = page h c p) : g = h ∧ rest b p = rest c p := by
  refine ⟨?_, ?_⟩
  · rw [← got_page og b p, e, got_page oh]
  · rw [← page_drop g b p, e, page_drop]
end Go.Proofs.YtnfnmjjdcaphjaaHead
