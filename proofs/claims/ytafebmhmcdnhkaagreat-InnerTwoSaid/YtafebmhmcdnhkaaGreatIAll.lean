/- What is proved here: that the law's fixed calls answer as they should. Conditions: none. -/
import Derived.Test.YtafebmhmcdnhkaaGreatEv
import Derived.Laws.BitsAllLaws
import Derived.Test.YtafebmhmcdnhkaaGreatPF
import Derived.Test.YtafebmhmcdnhkaaGreatMath
import Derived.Test.YtafebmhmcdnhkaaGreatPS
import Derived.Test.YtafebmhmcdnhkaaGreatWAbbr
set_option linter.unusedVariables false
set_option linter.unusedSimpArgs false
namespace Go.Proofs.YtafebmhmcdnhkaaGreatSlot
open Go.RowKit Go.Proofs.YtafebmhmcdnhkaaGreatW.PrintWords Go.Proofs.YtafebmhmcdnhkaaGreatW.PrintMore Go.Proofs.YtafebmhmcdnhkaaGreatEv

/-- A place of the directory: two bytes, the lower one ahead. -/
def place (n : Nat) : List UInt8 := [UInt8.ofNat n, UInt8.ofNat (n / 256)]
/-- The cells, one behind the other. -/
def cat (cs : List ByteArray) : List UInt8 := (cs.map L).flatten
/-- The directory of cells from the place p on: the last place stands first. -/
def dir : Nat → List ByteArray → List UInt8
  | p, [] => place p
  | p, c :: cs => dir (p + c.size) cs ++ place p
def need (f : ByteArray) (cs : List ByteArray) : Nat := f.size + (cat cs).length + 2 * (cs.length + 1)
def body (room : Nat) (f : ByteArray) (cs : List ByteArray) : ByteArray := ⟨(L f ++ cat cs ++ List.replicate (room - need f cs) 0 ++ dir f.size cs).toArray⟩
def packed (room : Int) (f : ByteArray) (cs : List ByteArray) : ByteArray × Int :=
  if room < 0 ∨ room > 65535 then (⟨#[]⟩, 4) else if (need f cs : Int) > room then (⟨#[]⟩, 8) else (body room.toNat f cs, 0)

theorem cat_nil : cat [] = [] := rfl
theorem cat_cons (c : ByteArray) (cs : List ByteArray) : cat (c :: cs) = L c ++ cat cs := by simp [cat]
theorem cat_append (a b : List ByteArray) : cat (a ++ b) = cat a ++ cat b := by simp [cat]
theorem cat_length_le (n : Nat) : ∀ (cs : List ByteArray), (∀ c ∈ cs, c.size ≤ n) → (cat cs).length ≤ cs.length * n
  | [], _ => by simp [cat]
  | c :: cs, h => by
    have h1 := cat_length_le n cs (fun x hx => h x (List.mem_cons_of_mem _ hx))
    have h2 := h c List.mem_cons_self
    rw [cat_cons, List.length_append, L_length, List.length_cons, Nat.add_mul]
    omega
theorem mem_le_cat {c : ByteArray} : ∀ {cs : List ByteArray}, c ∈ cs → c.size ≤ (cat cs).length
  | x :: cs, h => by
    rw [cat_cons, List.length_append, L_length]
    rcases List.mem_cons.1 h with rfl | h
    · omega
    · have := mem_le_cat h
      omega
theorem dir_length : ∀ (p : Nat) (cs : List ByteArray), (dir p cs).length = 2 * (cs.length + 1)
  | p, [] => rfl
  | p, c :: cs => by
    simp only [dir, List.length_append, dir_length _ cs, place, List.length_cons, List.length_nil]
    omega
theorem L_mk (l : List UInt8) : L ⟨l.toArray⟩ = l := by simp
theorem size_mk (l : List UInt8) : (⟨l.toArray⟩ : ByteArray).size = l.length := by rw [← L_length, L_mk]
theorem body_L (room : Nat) (f : ByteArray) (cs : List ByteArray) : L (body room f cs) = L f ++ cat cs ++ List.replicate (room - need f cs) 0 ++ dir f.size cs := L_mk _
theorem body_size {room : Nat} {f : ByteArray} {cs : List ByteArray} (h : need f cs ≤ room) : (body room f cs).size = room := by
  have hn : need f cs = f.size + (cat cs).length + 2 * (cs.length + 1) := rfl
  have h1 := L_length f
  have h2 := dir_length f.size cs
  rw [← L_length, body_L]
  simp only [List.length_append, List.length_replicate]
  omega

/-- The i-th place, told from the end of the bytes. -/
def ent (l : List UInt8) (i : Nat) : Nat := (l.getD (l.length - 2 * (i + 1)) 0).toNat + 256 * (l.getD (l.length - 2 * (i + 1) + 1) 0).toNat
theorem ent_lt (l : List UInt8) (i : Nat) : ent l i < 65536 := by
  unfold ent
  have h1 := (l.getD (l.length - 2 * (i + 1)) 0).toNat_lt
  have h2 := (l.getD (l.length - 2 * (i + 1) + 1) 0).toNat_lt
  omega
theorem ent_last (l : List UInt8) (n : Nat) (h : n < 65536) : ent (l ++ place n) 0 = n := by
  unfold ent place
  have e1 : (l ++ [UInt8.ofNat n, UInt8.ofNat (n / 256)]).length - 2 * (0 + 1) = l.length := by simp
  rw [e1]
  simp [List.getD_eq_getElem?_getD, List.getElem?_append_right]
  omega
theorem ent_succ (l : List UInt8) (n i : Nat) (h : 2 * (i + 1) ≤ l.length) : ent (l ++ place n) (i + 1) = ent l i := by
  unfold ent
  have e1 : (l ++ place n).length - 2 * (i + 1 + 1) = l.length - 2 * (i + 1) := by simp [place]; omega
  rw [e1]
  simp only [List.getD_eq_getElem?_getD]
  rw [List.getElem?_append_left (by omega), List.getElem?_append_left (by omega)]
/-- Where the i-th cell stands. -/
def pos : Nat → List ByteArray → Nat → Nat
  | p, _, 0 => p
  | p, [], _ + 1 => p
  | p, c :: cs, i + 1 => pos (p + c.size) cs i
theorem pos_zero (p : Nat) (cs : List ByteArray) : pos p cs 0 = p := by cases cs <;> rfl
theorem ent_dir : ∀ (cs : List ByteArray) (p i : Nat) (X : List UInt8), i ≤ cs.length → p + (cat cs).length < 65536 → ent (X ++ dir p cs) i = pos p cs i
  | [], p, i, X, h, hp => by
    obtain rfl : i = 0 := by simpa using h
    rw [dir, ent_last _ _ (by omega), pos_zero]
  | c :: cs, p, i, X, h, hp => by
    rw [cat_cons, List.length_append, L_length] at hp
    rw [dir, ← List.append_assoc]
    cases i with
    | zero => rw [ent_last _ _ (by omega), pos_zero]
    | succ i =>
      rw [ent_succ _ _ _ (by rw [List.length_append, dir_length]; simp at h; omega), ent_dir cs (p + c.size) i X (by simpa using h) (by omega)]
      rfl

/-- The cells between a body's places: d of them, from the i-th on. -/
def cuts (b : ByteArray) : Nat → Nat → List ByteArray → Option (List ByteArray)
  | 0, _, acc => some acc
  | d + 1, i, acc => if ent (L b) i > ent (L b) (i + 1) then none else if ent (L b) (i + 1) > b.size then none else cuts b d (i + 1) (acc ++ [b.extract (ent (L b) i) (ent (L b) (i + 1))])
def unpacked (b : ByteArray) (f m : Int) : List ByteArray × Int :=
  if f < 0 ∨ m < 0 ∨ (b.size : Int) > 65535 then ([], 4) else if f > (b.size : Int) ∨ m > (b.size : Int) / 2 - 1 then ([], 3) else
    match cuts b m.toNat 0 [] with
    | none => ([], 3)
    | some cs => if packed (b.size : Int) (b.extract 0 f.toNat) cs = (b, 0) then (cs, 0) else ([], 3)

theorem cuts_length (b : ByteArray) : ∀ (d i : Nat) (acc cs : List ByteArray), cuts b d i acc = some cs → cs.length = acc.length + d
  | 0, i, acc, cs, h => by
    injection h with h
    rw [h]
    rfl
  | d + 1, i, acc, cs, h => by
    unfold cuts at h
    split at h
    · cases h
    · split at h
      · cases h
      · rw [cuts_length b d _ _ _ h]
        simp
        omega
theorem cuts_size (b : ByteArray) : ∀ (d i : Nat) (acc cs : List ByteArray), (∀ c ∈ acc, c.size ≤ b.size) → cuts b d i acc = some cs → ∀ c ∈ cs, c.size ≤ b.size
  | 0, i, acc, cs, ha, h => by
    injection h with h
    rw [← h]
    exact ha
  | d + 1, i, acc, cs, ha, h => by
    unfold cuts at h
    split at h
    · cases h
    · split at h
      · cases h
      · refine cuts_size b d _ _ _ ?_ h
        intro c hc
        rcases List.mem_append.1 hc with hc | hc
        · exact ha c hc
        · obtain rfl := List.mem_singleton.1 hc
          rw [size_extract]
          omega
/-- What stands between the places that cells tell are the cells. -/
theorem cuts_of (b : ByteArray) : ∀ (cs : List ByteArray) (i : Nat) (acc : List ByteArray) (A R : List UInt8), L b = A ++ cat cs ++ R → (∀ j, j ≤ cs.length → ent (L b) (i + j) = pos A.length cs j) → cuts b cs.length i acc = some (acc ++ cs)
  | [], i, acc, A, R, h, hj => by
    rw [List.append_nil]
    rfl
  | c :: cs, i, acc, A, R, h, hj => by
    have h0 : ent (L b) i = A.length := by rw [← Nat.add_zero i, hj 0 (Nat.zero_le _), pos_zero]
    have h1 : ent (L b) (i + 1) = A.length + c.size := by rw [hj 1 (by simp)]; exact pos_zero _ cs
    have hs : b.size = A.length + (c.size + (cat cs).length) + R.length := by
      rw [← L_length b, h, cat_cons]
      simp only [List.length_append, L_length]
    have hc : b.extract (ent (L b) i) (ent (L b) (i + 1)) = c := by
      refine L_inj ?_
      rw [L_extract, h0, h1, h, cat_cons]
      have := L_length c
      rw [show A ++ (L c ++ cat cs) ++ R = A ++ (L c ++ (cat cs ++ R)) by simp only [List.append_assoc], List.drop_left, show A.length + c.size - A.length = (L c).length by omega, List.take_left]
    rw [List.length_cons]
    unfold cuts
    rw [if_neg (by omega), if_neg (by omega), hc, cuts_of b cs (i + 1) (acc ++ [c]) (A ++ L c) R (by rw [h, cat_cons]; simp only [List.append_assoc]) (fun j hl => by
      rw [show i + 1 + j = i + (j + 1) by omega, hj (j + 1) (by simpa using hl), List.length_append, L_length]
      rfl), List.append_assoc]
    rfl
theorem cuts_body {room : Nat} {f : ByteArray} {cs : List ByteArray} (h : need f cs ≤ room) (hr : room ≤ 65535) : cuts (body room f cs) cs.length 0 [] = some cs := by
  have hn : need f cs = f.size + (cat cs).length + 2 * (cs.length + 1) := rfl
  have := cuts_of (body room f cs) cs 0 [] (L f) (List.replicate (room - need f cs) 0 ++ dir f.size cs) (by rw [body_L]; simp only [List.append_assoc]) (fun j hj => by
    rw [Nat.zero_add, body_L, ent_dir cs f.size j _ hj (by omega), L_length])
  rw [this, List.nil_append]
theorem body_fixed {room : Nat} {f : ByteArray} {cs : List ByteArray} : (body room f cs).extract 0 f.size = f := by
  refine L_inj ?_
  rw [L_to, body_L, ← L_length f]
  simp only [List.append_assoc]
  rw [List.take_left]
theorem unpacked_body {room : Nat} {f : ByteArray} {cs : List ByteArray} (h : need f cs ≤ room) (hr : room ≤ 65535) : unpacked (body room f cs) (f.size : Int) (cs.length : Int) = (cs, 0) := by
  have hn : need f cs = f.size + (cat cs).length + 2 * (cs.length + 1) := rfl
  have hs := body_size h
  unfold unpacked
  rw [hs, if_neg (by omega), if_neg (by omega), Int.toNat_natCast, Int.toNat_natCast, cuts_body h hr, body_fixed]
  show (if _ then _ else _) = _
  rw [if_pos]
  unfold packed
  rw [if_neg (by omega), if_neg (by omega), Int.toNat_natCast]
/-- Unlike cells, as many, have unlike bodies. -/
theorem body_inj {room : Nat} {f : ByteArray} {cs ds : List ByteArray} (h : need f cs ≤ room) (h' : need f ds ≤ room) (hr : room ≤ 65535) (hl : cs.length = ds.length) (he : body room f cs = body room f ds) : cs = ds := by
  have h1 := cuts_body h hr
  have h2 := cuts_body h' hr
  rw [he, hl, h2] at h1
  injection h1 with h1
  exact h1.symm
end Go.Proofs.YtafebmhmcdnhkaaGreatSlot
namespace Go.Proofs.YtafebmhmcdnhkaaGreatSum
open Go.RowKit Go.Proofs.YtafebmhmcdnhkaaGreatW.PrintWords Go.Proofs.YtafebmhmcdnhkaaGreatW.PrintMore Go.Proofs.YtafebmhmcdnhkaaGreatEv

/-- One bit. -/
def sh (r : Nat) : Nat := if r % 2 = 1 then (r / 2) ^^^ 2197175160 else r / 2
def shN : Nat → Nat → Nat
  | 0, r => r
  | n + 1, r => shN n (sh r)
theorem xor_half (a b : Nat) : (a ^^^ b) / 2 = (a / 2) ^^^ (b / 2) := Nat.xor_div_two
theorem xor_par (a b : Nat) : (a ^^^ b) % 2 = (a + b) % 2 := by
  have h : (a ^^^ b) % 2 ^ 1 = (a % 2 ^ 1) ^^^ (b % 2 ^ 1) := Nat.xor_mod_two_pow
  rw [Nat.pow_one] at h
  rw [h]
  rcases Nat.mod_two_eq_zero_or_one a with ha | ha <;> rcases Nat.mod_two_eq_zero_or_one b with hb | hb <;> rw [ha, hb]
  · show 0 = _; omega
  · show 1 = _; omega
  · show 1 = _; omega
  · show 0 = _; omega
theorem xor_swap (a b c : Nat) : (a ^^^ c) ^^^ (b ^^^ c) = a ^^^ b := by
  rw [Nat.xor_assoc, ← Nat.xor_assoc c b c, Nat.xor_comm c b, Nat.xor_assoc b c c, Nat.xor_self, Nat.xor_zero]
theorem sh_xor (a b : Nat) : sh (a ^^^ b) = sh a ^^^ sh b := by
  unfold sh
  have hp := xor_par a b
  rw [xor_half]
  rcases Nat.mod_two_eq_zero_or_one a with ha | ha <;> rcases Nat.mod_two_eq_zero_or_one b with hb | hb
  · rw [if_neg (by omega), if_neg (by omega), if_neg (by omega)]
  · rw [if_pos (by omega), if_neg (by omega), if_pos (by omega), Nat.xor_assoc]
  · rw [if_pos (by omega), if_pos (by omega), if_neg (by omega), Nat.xor_assoc, Nat.xor_assoc, Nat.xor_comm (b / 2)]
  · rw [if_neg (by omega), if_pos (by omega), if_pos (by omega), xor_swap]
theorem sh_zero : sh 0 = 0 := rfl
theorem shN_xor : ∀ (n a b : Nat), shN n (a ^^^ b) = shN n a ^^^ shN n b
  | 0, a, b => rfl
  | n + 1, a, b => by
    show shN n (sh (a ^^^ b)) = _
    rw [sh_xor, shN_xor n]
    rfl
theorem sh_lt {r : Nat} (h : r < 4294967296) : sh r < 4294967296 := by
  unfold sh
  split
  · exact Nat.xor_lt_two_pow (n := 32) (by omega) (by omega)
  · omega
theorem shN_lt : ∀ (n : Nat) {r : Nat}, r < 4294967296 → shN n r < 4294967296
  | 0, r, h => h
  | n + 1, r, h => shN_lt n (sh_lt h)
theorem sh_even (x : Nat) : sh (2 * x) = x := by
  unfold sh
  rw [if_neg (by omega)]
  omega
theorem shN_256 (h : Nat) : shN 8 (256 * h) = h := by
  show sh (sh (sh (sh (sh (sh (sh (sh (256 * h)))))))) = h
  rw [show 256 * h = 2 * (2 * (2 * (2 * (2 * (2 * (2 * (2 * h))))))) by omega]
  simp only [sh_even]
theorem split_256 (r : Nat) : r = (r % 256) ^^^ (256 * (r / 256)) := by
  have h1 : ((r % 256) ^^^ (256 * (r / 256))) % 2 ^ 8 = r % 256 := by
    rw [Nat.xor_mod_two_pow]
    simp
  have h2 : ((r % 256) ^^^ (256 * (r / 256))) / 2 ^ 8 = r / 256 := by
    rw [Nat.xor_div_two_pow]
    simp
  have := Nat.div_add_mod ((r % 256) ^^^ (256 * (r / 256))) (2 ^ 8)
  rw [h1, h2] at this
  omega
/-- A byte at once. -/
theorem turn_eq (r b : Nat) : shN 8 (r ^^^ b) = shN 8 ((r % 256) ^^^ b) ^^^ (r / 256) := by
  conv => lhs; rw [split_256 r]
  rw [Nat.xor_assoc, Nat.xor_comm (256 * _) b, ← Nat.xor_assoc, shN_xor, shN_256]

/-- What bytes leave of a register; their sum. -/
def reg (r : Nat) (l : List UInt8) : Nat := l.foldl (fun r b => shN 8 (r ^^^ b.toNat)) r
def crc (l : List UInt8) : Nat := 4294967295 - reg 4294967295 l
theorem u8_lt (b : UInt8) : b.toNat < 256 := by have := b.toNat_lt; omega
theorem reg_lt : ∀ (l : List UInt8) (r : Nat), r < 4294967296 → reg r l < 4294967296
  | [], r, h => h
  | b :: l, r, h => reg_lt l _ (shN_lt 8 (Nat.xor_lt_two_pow (n := 32) (by omega) (by have := u8_lt b; omega)))
theorem crc_lt (l : List UInt8) : crc l < 4294967296 := by unfold crc; omega
theorem reg_append (a b : List UInt8) (r : Nat) : reg r (a ++ b) = reg (reg r a) b := List.foldl_append
theorem not_eq (x : Nat) (h : x < 4294967296) : 4294967295 ^^^ x = 4294967295 - x := by
  apply Nat.eq_of_testBit_eq
  intro i
  have h1 := Nat.testBit_two_pow_sub_succ (n := 32) (x := x) (by omega) i
  rw [Nat.testBit_xor, show (4294967295 : Nat) - x = 2 ^ 32 - (x + 1) by omega, h1, show (4294967295 : Nat) = 2 ^ 32 - 1 from rfl, Nat.testBit_two_pow_sub_one]
  by_cases hi : i < 32
  · simp [hi]
  · have : x.testBit i = false := Nat.testBit_lt_two_pow (Nat.lt_of_lt_of_le (by omega : x < 2 ^ 32) (Nat.pow_le_pow_right (by omega) (by omega)))
    simp [hi, this]
end Go.Proofs.YtafebmhmcdnhkaaGreatSum
namespace Go.Proofs.YtafebmhmcdnhkaaGreatHead
open Go.RowKit Go.Proofs.YtafebmhmcdnhkaaGreatW.PrintWords Go.Proofs.YtafebmhmcdnhkaaGreatW.PrintMore Go.Proofs.YtafebmhmcdnhkaaGreatEv Go.Proofs.YtafebmhmcdnhkaaGreatSum

theorem L_mk (l : List UInt8) : L ⟨l.toArray⟩ = l := by simp
theorem size_mk (l : List UInt8) : (⟨l.toArray⟩ : ByteArray).size = l.length := by rw [← L_length, L_mk]
/-- Four bytes, the lowest one ahead. -/
def le4 (n : Nat) : List UInt8 := [UInt8.ofNat n, UInt8.ofNat (n / 256), UInt8.ofNat (n / 65536), UInt8.ofNat (n / 16777216)]
def rd4 (l : List UInt8) : Nat := (l.getD 0 0).toNat + 256 * (l.getD 1 0).toNat + 65536 * (l.getD 2 0).toNat + 16777216 * (l.getD 3 0).toNat
theorem rd4_le4 (n : Nat) (h : n < 4294967296) (x : List UInt8) : rd4 (le4 n ++ x) = n := by
  simp [rd4, le4]
  omega
theorem le4_length (n : Nat) : (le4 n).length = 4 := rfl
theorem le4_inj {m n : Nat} (hm : m < 4294967296) (hn : n < 4294967296) (h : le4 m = le4 n) : m = n := by
  have h1 := rd4_le4 m hm []
  have h2 := rd4_le4 n hn []
  rw [h] at h1
  omega
/-- A head. -/
structure Hd where
  k : Nat
  l : Nat
  c : Nat
  r : Nat
  s : Nat
deriving DecidableEq
def Hd.ok (h : Hd) : Prop := 1 ≤ h.k ∧ h.k < 5 ∧ h.l < 256 ∧ h.c < 65536 ∧ h.r < 4096 ∧ h.s < 4096
def front (h : Hd) : List UInt8 := [UInt8.ofNat h.k, UInt8.ofNat h.l, UInt8.ofNat h.c, UInt8.ofNat (h.c / 256)] ++ le4 h.r ++ le4 h.s
def rest (b : List UInt8) (p : Nat) : List UInt8 := b ++ List.replicate (p - 16 - b.length) 0
def sum (h : Hd) (b : List UInt8) (p : Nat) : Nat := crc (front h ++ [0, 0, 0, 0] ++ rest b p)
def page (h : Hd) (b : List UInt8) (p : Nat) : List UInt8 := front h ++ le4 (sum h b p) ++ rest b p
def pageB (h : Hd) (b : List UInt8) (p : Nat) : ByteArray := ⟨(page h b p).toArray⟩
theorem front_length (h : Hd) : (front h).length = 12 := rfl
theorem rest_length {b : List UInt8} {p : Nat} (h : b.length + 16 ≤ p) : (rest b p).length = p - 16 := by
  simp [rest]
  omega
theorem page_length {h : Hd} {b : List UInt8} {p : Nat} (hb : b.length + 16 ≤ p) : (page h b p).length = p := by
  simp only [page, List.length_append, front_length, le4_length, rest_length hb]
  omega
theorem pageB_L (h : Hd) (b : List UInt8) (p : Nat) : L (pageB h b p) = page h b p := L_mk _
theorem pageB_size {h : Hd} {b : List UInt8} {p : Nat} (hb : b.length + 16 ≤ p) : (pageB h b p).size = p := by rw [← L_length, pageB_L, page_length hb]
/-- What is read of bytes. -/
def got (l : List UInt8) : Hd := ⟨(l.getD 0 0).toNat, (l.getD 1 0).toNat, (l.getD 2 0).toNat + 256 * (l.getD 3 0).toNat, rd4 (l.drop 4), rd4 (l.drop 8)⟩
theorem got_front {h : Hd} (ok : h.ok) (x : List UInt8) : got (front h ++ x) = h := by
  obtain ⟨h1, h2, h3, h4, h5, h6⟩ := ok
  have e1 : (front h ++ x).drop 4 = le4 h.r ++ (le4 h.s ++ x) := by simp [front]
  have e2 : (front h ++ x).drop 8 = le4 h.s ++ x := by simp [front, le4]
  unfold got
  rw [e1, e2, rd4_le4 _ (by omega), rd4_le4 _ (by omega)]
  cases h
  simp [front] at *
  omega
theorem front_inj {g h : Hd} (og : g.ok) (oh : h.ok) (e : front g = front h) : g = h := by
  have h1 := got_front og []
  have h2 := got_front oh []
  rw [e] at h1
  exact h1.symm.trans h2
theorem page_drop (h : Hd) (b : List UInt8) (p : Nat) : (page h b p).drop 16 = rest b p := by
  have : (front h ++ le4 (sum h b p)).length = 16 := rfl
  unfold page
  rw [List.drop_append, this]
  simp [this]
theorem got_page {h : Hd} (ok : h.ok) (b : List UInt8) (p : Nat) : got (page h b p) = h := by
  unfold page
  rw [List.append_assoc]
  exact got_front ok _
/-- A page of a longer body, of bytes 0, is the same. -/
theorem rest_zeros (b : List UInt8) (n p : Nat) (h : b.length + n + 16 ≤ p) : rest (b ++ List.replicate n 0) p = rest b p := by
  unfold rest
  rw [List.append_assoc, List.length_append, List.length_replicate, List.replicate_append_replicate]
  congr 2
  omega
theorem rest_rest {b : List UInt8} {p : Nat} (h : b.length + 16 ≤ p) : rest (rest b p) p = rest b p := rest_zeros b (p - 16 - b.length) p (by omega)
theorem page_of_rest {h : Hd} {b c : List UInt8} {p : Nat} (e : rest b p = rest c p) : page h b p = page h c p := by
  unfold page sum
  rw [e]
theorem page_inj {g h : Hd} (og : g.ok) (oh : h.ok) {b c : List UInt8} {p : Nat} (e : page g b p = page h c p) : g = h ∧ rest b p = rest c p := by
  refine ⟨?_, ?_⟩
  · rw [← got_page og b p, e, got_page oh]
  · rw [← page_drop g b p, e, page_drop]
end Go.Proofs.YtafebmhmcdnhkaaGreatHead
namespace Go.Proofs.YtafebmhmcdnhkaaGreat.Spec
open Go.RowKit Go.Proofs.YtafebmhmcdnhkaaGreatW.PrintWords Go.Proofs.YtafebmhmcdnhkaaGreatW.PrintLast Go.Proofs.YtafebmhmcdnhkaaGreatW.PrintMore Go.Proofs.YtafebmhmcdnhkaaGreatEv Go.Proofs.YtafebmhmcdnhkaaGreatMath Go.Proofs.YtafebmhmcdnhkaaGreat.P
theorem not_true_of {b : Bool} (h : b = false) : ¬ b = true := by rw [h]; exact Bool.false_ne_true
theorem shared_loop (a b : ByteArray) (ha : a.size ≤ 140737488351232) (hb : b.size ≤ 140737488351232) : ∀ (d i : Nat), i ≤ a.size → i ≤ b.size → min a.size b.size - i = d → (∀ j, j < i → (L a)[j]? = (L b)[j]?) →
    Ev (fun k => sep_shared_byte.l0 k (bytesOf a) (bytesOf b) (i : Int)) (cp (L a) (L b) : Int) := by
  intro d
  induction d with
  | zero =>
    intro i h1 h2 hd hj
    refine ev_step ?_
    simp only [sep_shared_byte.l0, bytesOf_length, mn_eq]
    refine ev_neg (by omega) (ev_some' ?_)
    rw [cp_of_get i (L a) (L b) (by rw [L_length]; exact h1) (by rw [L_length]; exact h2) hj (by rw [L_length, L_length]; omega)]
  | succ d ih =>
    intro i h1 h2 hd hj
    have hla : i < (L a).length := by rw [L_length]; omega
    have hlb : i < (L b).length := by rw [L_length]; omega
    refine ev_step ?_
    simp only [sep_shared_byte.l0, bytesOf_length, mn_eq, rd_bytesOf]
    refine ev_pos (by omega) (ev_pos (by omega) (ev_pos (by omega) (ev_pos (by omega) ?_)))
    by_cases he : (L a)[i]? = (L b)[i]?
    · refine ev_pos ((bt_eq_iff a b i i hla hlb).2 he) ?_
      rw [w64_succ (by omega)]
      exact ih (i + 1) (by omega) (by omega) (by omega) (fun j hj' => by
        rcases Nat.lt_or_ge j i with h | h
        · exact hj j h
        · obtain rfl : j = i := by omega
          exact he)
    · refine ev_neg (fun h => he ((bt_eq_iff a b i i hla hlb).1 h)) (ev_some' ?_)
      rw [cp_of_get i (L a) (L b) (by omega) (by omega) hj (.inr (.inr he))]
theorem common_ev (a b : ByteArray) (ha : a.size ≤ 140737488351232) (hb : b.size ≤ 140737488351232) : Ev (fun k => sep_Common.f k a b) (cp (L a) (L b) : Int) := by
  unfold sep_Common.f sep_shared_byte.f
  exact ev_pos (by omega) (ev_pos (by omega) (shared_loop a b ha hb _ 0 (Nat.zero_le _) (Nat.zero_le _) rfl (fun j hj => absurd hj (Nat.not_lt_zero _))))
theorem least_loop (l : List Int) (hl : l.length ≤ 140737488351232) : ∀ (d i : Nat) (n : Int), i ≤ l.length → l.length - i = d → Ev (fun k => sep_least.l0 k n l (l.length : Int) (i : Int)) ((l.drop i).foldl min n) := by
  intro d
  induction d with
  | zero =>
    intro i n h1 hd
    refine ev_step ?_
    simp only [sep_least.l0]
    refine ev_neg (by omega) (ev_some' ?_)
    rw [List.drop_of_length_le (by omega)]
    rfl
  | succ d ih =>
    intro i n h1 hd
    have hi : i < l.length := by omega
    refine ev_step ?_
    simp only [sep_least.l0]
    refine ev_pos (by omega) (ev_pos (by omega) (ev_pos (by omega) ?_))
    rw [w64_succ (by omega), rd_nat l i hi, mn_eq]
    refine ev_eq (ih (i + 1) _ (by omega) (by omega)) ?_
    rw [List.drop_eq_getElem_cons hi, List.foldl_cons]
theorem least_ev (n : Int) (l : List Int) (hl : l.length ≤ 140737488351232) : Ev (fun k => sep_least.f k n l) (l.foldl min n) := by
  unfold sep_least.f
  exact least_loop l hl _ 0 n (Nat.zero_le _) rfl
theorem foldl_min_cast : ∀ (l : List Nat) (n : Nat), (l.map (fun x : Nat => (x : Int))).foldl min (n : Int) = ((l.foldl min n : Nat) : Int)
  | [], n => rfl
  | x :: l, n => by
    rw [List.map_cons, List.foldl_cons, List.foldl_cons, ← foldl_min_cast l (min n x)]
    congr 1
    omega
theorem foldl_cp (a : List UInt8) : ∀ (r : List (List UInt8)) (n : Nat), n ≤ a.length → (r.map (cp a)).foldl min n = min n (spanFrom a r)
  | [], n, h => by simp only [List.map_nil, List.foldl_nil, spanFrom]; omega
  | s :: r, n, h => by
    rw [List.map_cons, List.foldl_cons, foldl_cp a r _ (by omega)]
    simp only [spanFrom]
    omega
theorem span_loop (x : ByteArray) (r : List ByteArray) (hx : x.size ≤ 140737488351232) (hr : ∀ s ∈ r, s.size ≤ 140737488351232) (hl : r.length ≤ 8796093022207) : ∀ (d i : Nat) (acc : List Nat), i ≤ r.length → acc.length = i → r.length - i = d →
    Ev (fun k => sep_Span.l0 k (x :: r) (acc.map (fun n : Nat => (n : Int))) r (r.length : Int) (i : Int)) (((acc ++ (r.drop i).map (fun s => cp (L x) (L s))).foldl min x.size : Nat) : Int) := by
  intro d
  induction d with
  | zero =>
    intro i acc h1 ha hd
    refine ev_step ?_
    simp only [sep_Span.l0, rdOf_zero]
    refine ev_neg (by omega) (ev_pos (by simp <;> omega) (ev_bind (least_ev _ _ (by simp <;> omega)) (ev_some' ?_)))
    rw [foldl_min_cast, List.drop_of_length_le (by omega)]
    simp
  | succ d ih =>
    intro i acc h1 ha hd
    have hi : i < r.length := by omega
    refine ev_step ?_
    simp only [sep_Span.l0, rdOf_zero]
    refine ev_pos (by omega) (ev_pos (by omega) (ev_pos (by omega) (ev_pos (by simp <;> omega) ?_)))
    rw [rdOf_nat _ r i hi]
    refine ev_bind (common_ev x r[i] hx (hr _ (List.getElem_mem hi))) (ev_pos (by simp <;> omega) ?_)
    rw [w64_succ (by omega)]
    have := ih (i + 1) (acc ++ [cp (L x) (L r[i])]) (by omega) (by simp <;> omega) (by omega)
    rw [List.map_append] at this
    refine ev_eq this ?_
    rw [List.drop_eq_getElem_cons hi, List.map_cons, List.append_assoc]
    rfl
theorem span_ev (l : List ByteArray) (hs : ∀ s ∈ l, s.size ≤ 140737488351232) (hl : l.length ≤ 8796093022207) : Ev (fun k => sep_Span.f k l) (span (l.map L) : Int) := by
  unfold sep_Span.f
  cases l with
  | nil => exact ev_pos rfl (ev_some' rfl)
  | cons x r =>
    refine ev_neg (by simp <;> omega) (ev_pos (by simp <;> omega) ?_)
    have h := span_loop x r (hs x (List.mem_cons_self)) (fun s h => hs s (List.mem_cons_of_mem _ h)) (by simp at hl; omega) _ 0 [] (Nat.zero_le _) rfl rfl
    refine ev_eq h ?_
    have e : (r.map fun s => cp (L x) (L s)) = (r.map L).map (cp (L x)) := by rw [List.map_map]; rfl
    rw [List.nil_append, List.drop_zero, ← L_length, e, foldl_cp (L x) (r.map L) _ (Nat.le_refl _)]
    have := spanFrom_le (L x) (r.map L)
    simp only [List.map_cons, span]
    omega
theorem strip_loop (x : List ByteArray) (n : Nat) (hl : x.length ≤ 8796093022207) (hn : ∀ s ∈ x, n ≤ s.size) : ∀ (d i : Nat) (acc : List ByteArray), i ≤ x.length → acc.length = i → x.length - i = d →
    Ev (fun k => sep_Strip.l0 k x (n : Int) acc x (x.length : Int) (i : Int)) ((match x with | [] => (⟨#[]⟩ : ByteArray) | s :: _ => s.extract 0 n), acc ++ (x.drop i).map (fun s => s.extract n s.size)) := by
  intro d
  induction d with
  | zero =>
    intro i acc h1 ha hd
    refine ev_step ?_
    simp only [sep_Strip.l0]
    refine ev_neg (by omega) ?_
    rw [List.drop_of_length_le (by omega), List.map_nil, List.append_nil]
    cases x with
    | nil => exact ev_pos rfl ev_some
    | cons s r =>
      have := hn s (List.mem_cons_self)
      refine ev_neg (by simp <;> omega) (ev_pos (by simp <;> omega) (ev_pos (by omega) ?_))
      rw [rdOf_zero]
      exact ev_pos (by omega) (ev_some' (by simp))
  | succ d ih =>
    intro i acc h1 ha hd
    have hi : i < x.length := by omega
    have := hn x[i] (List.getElem_mem hi)
    refine ev_step ?_
    simp only [sep_Strip.l0]
    rw [rdOf_nat _ x i hi]
    refine ev_pos (by omega) (ev_pos (by omega) (ev_pos (by omega) (ev_pos (by omega) (ev_pos (by omega) (ev_pos (by omega) ?_)))))
    rw [w64_succ (by omega)]
    refine ev_eq (ih (i + 1) _ (by omega) (by simp <;> omega) (by omega)) ?_
    rw [List.drop_eq_getElem_cons hi, List.map_cons, List.append_assoc, Int.toNat_natCast]
    rfl
theorem span_le_size {l : List ByteArray} {s : ByteArray} (h : s ∈ l) : span (l.map L) ≤ s.size := by
  cases l with
  | nil => cases h
  | cons x r =>
    have := (span_all (l := (x :: r).map L) (Nat.le_refl _) (a := L x) rfl (L s) (List.mem_map_of_mem h)).1
    rwa [L_length] at this
def stripped (l : List ByteArray) : ByteArray × List ByteArray :=
  ((match l with | [] => (⟨#[]⟩ : ByteArray) | s :: _ => s.extract 0 (span (l.map L))), l.map (fun s => s.extract (span (l.map L)) s.size))
theorem strip_ev (l : List ByteArray) (hs : ∀ s ∈ l, s.size ≤ 140737488351232) (hl : l.length ≤ 8796093022207) : Ev (fun k => sep_Strip.f k l) (stripped l) := by
  unfold sep_Strip.f
  refine ev_bind (span_ev l hs hl) ?_
  refine ev_eq (strip_loop l (span (l.map L)) hl (fun s h => span_le_size h) _ 0 [] (Nat.zero_le _) rfl rfl) ?_
  rw [List.drop_zero, List.nil_append]
  cases l <;> rfl
theorem words_loop (a b : List ByteArray) (hl : a.length = b.length) (hb : a.length ≤ 140737488351232) : ∀ (d i : Nat), i ≤ a.length → a.length - i = d →
    Ev (fun k => withyref01_Words.l0 k a b (i : Int)) (decide (a.drop i = b.drop i)) := by
  intro d
  induction d with
  | zero =>
    intro i h1 hd
    refine ev_step ?_
    simp only [withyref01_Words.l0]
    refine ev_neg (by omega) (ev_some' ?_)
    rw [List.drop_of_length_le (by omega), List.drop_of_length_le (by omega)]
    simp
  | succ d ih =>
    intro i h1 hd
    have hi : i < a.length := by omega
    have hj : i < b.length := by omega
    refine ev_step ?_
    simp only [withyref01_Words.l0, L_toList]
    rw [rdOf_nat _ a i hi, rdOf_nat _ b i hj]
    refine ev_pos (by omega) (ev_pos (by omega) (ev_pos (by omega) ?_))
    rw [List.drop_eq_getElem_cons hi, List.drop_eq_getElem_cons hj]
    by_cases h : L a[i] = L b[i]
    · refine ev_pos h ?_
      rw [w64_succ (by omega)]
      refine ev_eq (ih (i + 1) (by omega) (by omega)) (decide_eq_decide.2 ?_)
      rw [L_inj h]
      exact ⟨fun e => by rw [e], fun e => by injection e⟩
    · refine ev_neg h (ev_some' (Eq.symm (decide_eq_false ?_)))
      intro e
      injection e with e1 e2
      exact h (by rw [e1])
theorem words_ev (a b : List ByteArray) (hb : a.length ≤ 140737488351232) : Ev (fun k => withyref01_Words.f k a b) (decide (a = b)) := by
  unfold withyref01_Words.f
  by_cases hl : a.length = b.length
  · refine ev_pos (by omega) ?_
    exact words_loop a b hl hb _ 0 (Nat.zero_le _) rfl
  · refine ev_neg (by omega) (ev_some' ?_)
    exact Eq.symm (decide_eq_false (fun e => hl (by rw [e])))
end Go.Proofs.YtafebmhmcdnhkaaGreat.Spec
namespace Go.Proofs.YtafebmhmcdnhkaaGreat.Spec
open Go.RowKit Go.Proofs.YtafebmhmcdnhkaaGreatW.PrintWords Go.Proofs.YtafebmhmcdnhkaaGreatW.PrintLast Go.Proofs.YtafebmhmcdnhkaaGreatW.PrintMore Go.Proofs.YtafebmhmcdnhkaaGreatEv Go.Proofs.YtafebmhmcdnhkaaGreatSlot Go.Proofs.YtafebmhmcdnhkaaGreat.P
theorem join_flat (xs : List (List UInt8)) : Lib.join xs [] = xs.flatten := by
  cases xs with
  | nil => rfl
  | cons x r =>
    rw [Lib.join_cons]
    simp [Lib.joinTail]
theorem size_eq (f : ByteArray) (cs : List ByteArray) (h : need f cs ≤ 140737488300000) : slot_Size.f f cs = some (need f cs : Int) := by
  have hn : need f cs = f.size + (cat cs).length + 2 * (cs.length + 1) := rfl
  have e : Lib.join (cs.map (fun x => x.data.toList)) (⟨#[]⟩ : ByteArray).data.toList = cat cs := join_flat _
  unfold slot_Size.f strings_Join.f
  have e2 : (⟨(cat cs).toArray⟩ : ByteArray).size = (cat cs).length := size_mk _
  rw [e, if_pos (by omega), if_pos (by omega), Option.bind_some, e2]
  refine congrArg some ?_
  rw [w64 (x := (cs.length : Int) + 1) (by omega) (by omega), w64 (x := 2 * _) (by omega) (by omega), w64 (x := (f.size : Int) + _) (by omega) (by omega), w64 (by omega) (by omega)]
  omega
end Go.Proofs.YtafebmhmcdnhkaaGreat.Spec
namespace Go.Proofs.YtafebmhmcdnhkaaGreat.Spec
open Go.RowKit Go.Proofs.YtafebmhmcdnhkaaGreatW.PrintWords Go.Proofs.YtafebmhmcdnhkaaGreatW.PrintLast Go.Proofs.YtafebmhmcdnhkaaGreatW.PrintMore Go.Proofs.YtafebmhmcdnhkaaGreatEv Go.Proofs.YtafebmhmcdnhkaaGreatSlot Go.Proofs.YtafebmhmcdnhkaaGreat.P
theorem ofNat_mod (n : Nat) : UInt8.ofNat (n % 256) = UInt8.ofNat n := by
  rw [← UInt8.toNat_inj]
  simp
def placeB (n : Nat) : ByteArray := ⟨(place n).toArray⟩
theorem placeB_L (n : Nat) : L (placeB n) = place n := L_mk _
theorem placeB_size (n : Nat) : (placeB n).size = 2 := size_mk _
theorem place_eq (n : Nat) : slot_place.f (n : Int) = some (placeB n) := by
  unfold slot_place.f
  refine congrArg some (L_inj ?_)
  rw [placeB_L]
  show (strOfNums _).data.toList = _
  rw [strOfNums_data]
  simp only [List.map_cons, List.map_nil, place]
  rw [show ((n : Int) % 256).toNat = n % 256 by omega, show ((n : Int) / 256 % 256).toNat = (n / 256) % 256 by omega, ofNat_mod, ofNat_mod]
def zerosB (n : Nat) : ByteArray := ⟨(List.replicate n (0 : UInt8)).toArray⟩
theorem zerosB_L (n : Nat) : L (zerosB n) = List.replicate n 0 := L_mk _
theorem zerosB_size (n : Nat) : (zerosB n).size = n := by unfold zerosB; rw [size_mk, List.length_replicate]
theorem repeat_eq (n : Nat) (h : n ≤ 140737488300000) : strings_Repeat.f (⟨#[0]⟩ : ByteArray) (n : Int) = some (zerosB n) := by
  unfold strings_Repeat.f
  have e : (⟨#[0]⟩ : ByteArray).size = 1 := rfl
  rw [if_pos (by omega), if_pos (by omega), if_pos (by rw [e]; omega), Int.toNat_natCast]
  refine congrArg some (L_inj ?_)
  rw [zerosB_L, L_mk]
  have := Lib.repeatL_replicate 0 1 n
  rw [Nat.mul_one] at this
  exact this
/-- What both loops make of what is there and of the cells that are left. -/
def fill (room : Nat) (a b : ByteArray) (cs : List ByteArray) : ByteArray := ⟨(L a ++ cat cs ++ List.replicate (room - (a.size + (cat cs).length + 2 * (cs.length + 1) + b.size)) 0 ++ (dir a.size cs ++ L b)).toArray⟩
theorem fill_nil (room : Nat) (a b : ByteArray) (h : a.size + 2 + b.size ≤ room) : (a ++ zerosB (room - (a.size + 2 + b.size))) ++ (placeB a.size ++ b) = fill room a b [] := by
  refine L_inj ?_
  unfold fill
  rw [L_mk]
  simp only [L_append, zerosB_L, placeB_L, cat_nil, dir, List.append_nil, List.length_nil]
theorem fill_cons (room : Nat) (a b c : ByteArray) (cs : List ByteArray) : fill room (a ++ c) (placeB a.size ++ b) cs = fill room a b (c :: cs) := by
  refine L_inj ?_
  unfold fill
  rw [L_mk, L_mk]
  simp only [L_append, placeB_L, cat_cons, dir, ByteArray.size_append, placeB_size, List.append_assoc, List.length_append, L_length, List.length_cons]
  congr 5
  omega
theorem fill_all (room : Nat) (f : ByteArray) (cs : List ByteArray) : fill room f ⟨#[]⟩ cs = body room f cs := by
  refine L_inj ?_
  unfold fill
  rw [body_L, L_mk]
  have e : (⟨#[]⟩ : ByteArray).size = 0 := rfl
  have e' : L (⟨#[]⟩ : ByteArray) = [] := rfl
  have hn : need f cs = f.size + (cat cs).length + 2 * (cs.length + 1) := rfl
  rw [e, e', Nat.add_zero, List.append_nil, hn]
theorem pack_loop (room : Nat) (hr : room ≤ 65535) (cs : List ByteArray) : ∀ (d i : Nat) (a b : ByteArray), i ≤ cs.length → cs.length - i = d → a.size + (cat (cs.drop i)).length + 2 * (d + 1) + b.size ≤ room → cs.length ≤ 65535 →
    Ev (fun k => slot_Pack.l0 k (room : Int) a b cs (cs.length : Int) (i : Int)) (fill room a b (cs.drop i), 0) := by
  intro d
  induction d with
  | zero =>
    intro i a b h1 hd hs hl
    refine ev_step ?_
    simp only [slot_Pack.l0]
    rw [List.drop_of_length_le (by omega), cat_nil] at hs
    simp only [List.length_nil, Nat.add_zero] at hs
    have ep := placeB_size a.size
    have es : (placeB a.size ++ b).size = 2 + b.size := by rw [ByteArray.size_append, ep]
    refine ev_neg (by omega) (ev_bind_now (place_eq a.size) (ev_pos (by omega) ?_))
    rw [es, w64 (x := (room : Int) - _) (by omega) (by omega), w64 (by omega) (by omega), show (room : Int) - (a.size : Int) - ((2 + b.size : Nat) : Int) = ((room - (a.size + 2 + b.size) : Nat) : Int) by omega]
    have ez := zerosB_size (room - (a.size + 2 + b.size))
    have eaz : (a ++ zerosB (room - (a.size + 2 + b.size))).size = room - 2 - b.size := by rw [ByteArray.size_append, ez]; omega
    refine ev_bind_now (repeat_eq _ (by omega)) (ev_pos (by omega) (ev_pos (by omega) (ev_some' ?_)))
    rw [List.drop_of_length_le (by omega), fill_nil room a b (by omega)]
  | succ d ih =>
    intro i a b h1 hd hs hl
    have hi : i < cs.length := by omega
    rw [List.drop_eq_getElem_cons hi, cat_cons, List.length_append, L_length] at hs
    have ep := placeB_size a.size
    refine ev_step ?_
    simp only [slot_Pack.l0]
    rw [rdOf_nat _ cs i hi]
    refine ev_pos (by omega) (ev_pos (by omega) (ev_pos (by omega) (ev_bind_now (place_eq a.size) (ev_pos (by omega) (ev_pos (by omega) ?_)))))
    rw [w64_succ (by omega), List.drop_eq_getElem_cons hi, ← fill_cons]
    exact ih (i + 1) _ _ (by omega) (by omega) (by rw [ByteArray.size_append, ByteArray.size_append, ep]; omega) hl
theorem pack_j (room : Int) (f : ByteArray) (cs : List ByteArray) (h : need f cs ≤ 140737488300000) (t : Bool) (ht : t = decide (room < 0 ∨ room > 65535)) : Ev (fun k => slot_Pack.j0 k room f cs t) (packed room f cs) := by
  have hn : need f cs = f.size + (cat cs).length + 2 * (cs.length + 1) := rfl
  refine ev_step ?_
  simp only [slot_Pack.j0]
  unfold packed
  by_cases hr : room < 0 ∨ room > 65535
  · rw [if_pos hr]
    exact ev_pos (by rw [ht]; exact decide_eq_true hr) ev_some
  · rw [if_neg hr]
    refine ev_neg (by rw [ht]; exact fun h => hr (of_decide_eq_true h)) (ev_bind_now (size_eq f cs h) ?_)
    by_cases hx : (need f cs : Int) > room
    · rw [if_pos hx]
      exact ev_pos hx ev_some
    · rw [if_neg hx]
      obtain ⟨n, rfl⟩ := Int.eq_ofNat_of_zero_le (show 0 ≤ room by omega)
      refine ev_neg hx ?_
      have := pack_loop n (by omega) cs _ 0 f ⟨#[]⟩ (Nat.zero_le _) rfl (by rw [List.drop_zero]; show _ + 0 ≤ n; omega) (by omega)
      rw [List.drop_zero, fill_all] at this
      exact this
theorem pack_ev (room : Int) (f : ByteArray) (cs : List ByteArray) (h : need f cs ≤ 140737488300000) : Ev (fun k => slot_Pack.f k room f cs) (packed room f cs) := by
  unfold slot_Pack.f
  by_cases hr : room < 0
  · exact ev_pos hr (pack_j room f cs h _ (Eq.symm (decide_eq_true (.inl hr))))
  · refine ev_neg hr (pack_j room f cs h _ (decide_eq_decide.2 ?_))
    omega
theorem packed_ok {room : Nat} {f : ByteArray} {cs : List ByteArray} (h : need f cs ≤ room) (hr : room ≤ 65535) : packed (room : Int) f cs = (body room f cs, 0) := by
  unfold packed
  rw [if_neg (by omega), if_neg (by omega), Int.toNat_natCast]
theorem packed_much {room : Nat} {f : ByteArray} {cs : List ByteArray} (h : room < need f cs) (hr : room ≤ 65535) : packed (room : Int) f cs = (⟨#[]⟩, 8) := by
  unfold packed
  rw [if_neg (by omega), if_pos (by omega)]
end Go.Proofs.YtafebmhmcdnhkaaGreat.Spec
namespace Go.Proofs.YtafebmhmcdnhkaaGreat.HSpec
open Go.RowKit Go.Proofs.YtafebmhmcdnhkaaGreatW.PrintWords Go.Proofs.YtafebmhmcdnhkaaGreatW.PrintLast Go.Proofs.YtafebmhmcdnhkaaGreatW.PrintMore Go.Proofs.YtafebmhmcdnhkaaGreatEv Go.Proofs.YtafebmhmcdnhkaaGreatSum Go.Proofs.YtafebmhmcdnhkaaGreatHead Go.Proofs.YtafebmhmcdnhkaaGreat.P
theorem sum_shift_eq (r : Nat) (h : r < 4294967296) : sum_shift (r : Int) = (sh r : Int) := by
  unfold sum_shift sh
  rw [show (1 : Int) = ((1 : Nat) : Int) from rfl, u32_and_nat r 1 h (by omega), Nat.and_one_is_mod, show (r : Int) / 2 = ((r / 2 : Nat) : Int) by omega, show (2197175160 : Int) = ((2197175160 : Nat) : Int) from rfl, u32_xor_nat _ _ (by omega) (by omega)]
  by_cases hp : r % 2 = 1
  · rw [if_pos hp, if_pos (by omega)]
  · rw [if_neg hp, if_neg (by omega)]
theorem sum_stepN_eq : ∀ (n r : Nat), r < 4294967296 → sum_stepN n (r : Int) = (shN n r : Int)
  | 0, r, h => rfl
  | n + 1, r, h => by
    show sum_stepN n (sum_shift (r : Int)) = _
    rw [sum_shift_eq r h, sum_stepN_eq n _ (sh_lt h)]
    rfl
theorem sum_turn_eq (r : Nat) (b : UInt8) (h : r < 4294967296) : sum_turn (r : Int) (b.toNat : Int) = (shN 8 (r ^^^ b.toNat) : Int) := by
  have hb := u8_lt b
  have hx : (r % 256) ^^^ b.toNat < 256 := Nat.xor_lt_two_pow (n := 8) (by omega) (by omega)
  unfold sum_turn
  rw [show (r : Int) % 256 = ((r % 256 : Nat) : Int) by omega, u8_xor_nat _ _ (by omega) hb, sum_stepN_eq 8 _ (by omega), show (r : Int) / 256 = ((r / 256 : Nat) : Int) by omega, u32_xor_nat _ _ (shN_lt 8 (by omega)) (by omega), ← turn_eq]
theorem sum_fold_eq : ∀ (l : List UInt8) (r : Nat), r < 4294967296 → (l.map fun b => (b.toNat : Int)).foldl sum_turn (r : Int) = (reg r l : Int)
  | [], r, h => rfl
  | b :: l, r, h => by
    rw [List.map_cons, List.foldl_cons, sum_turn_eq r b h, sum_fold_eq l _ (shN_lt 8 (Nat.xor_lt_two_pow (n := 32) (by omega) (by have := u8_lt b; omega)))]
    rfl
theorem sum_eq (s : ByteArray) (h : s.size ≤ 9223372036854775806) : sum_Table.f s = some (crc (L s) : Int) := by
  unfold sum_Table.f sum_More.f
  have e1 : Go.bits .xor .u32 IntKind.u32.max 0 = ((4294967295 : Nat) : Int) := u32_xor_nat 4294967295 0 (by omega) (by omega)
  have h2 := reg_lt (L s) 4294967295 (by omega)
  have e2 : (bytesOf s).foldl sum_turn ((4294967295 : Nat) : Int) = (reg 4294967295 (L s) : Int) := sum_fold_eq (L s) 4294967295 (by omega)
  have e3 : Go.bits .xor .u32 IntKind.u32.max (reg 4294967295 (L s) : Int) = ((4294967295 ^^^ reg 4294967295 (L s) : Nat) : Int) := u32_xor_nat 4294967295 _ (by omega) h2
  rw [if_pos h, Option.bind_some, e1, e2, e3, not_eq _ h2]
  rfl
theorem ofNat_mod (n : Nat) : UInt8.ofNat (n % 256) = UInt8.ofNat n := by
  rw [← UInt8.toNat_inj]
  simp
def fourB (n : Nat) : ByteArray := ⟨(le4 n).toArray⟩
theorem fourB_L (n : Nat) : L (fourB n) = le4 n := L_mk _
theorem fourB_size (n : Nat) : (fourB n).size = 4 := size_mk _
theorem four_eq (n : Nat) : word_Four.f (n : Int) = some (fourB n) := by
  unfold word_Four.f
  refine congrArg some (L_inj ?_)
  rw [fourB_L]
  show (strOfNums _).data.toList = _
  rw [strOfNums_data]
  simp only [List.map_cons, List.map_nil, le4]
  rw [show ((n : Int) % 256).toNat = n % 256 by omega, show ((n : Int) / 256 % 256).toNat = (n / 256) % 256 by omega, show ((n : Int) / 65536 % 256).toNat = (n / 65536) % 256 by omega, show ((n : Int) / 16777216 % 256).toNat = (n / 16777216) % 256 by omega, ofNat_mod, ofNat_mod, ofNat_mod, ofNat_mod]
def zerosB (n : Nat) : ByteArray := ⟨(List.replicate n (0 : UInt8)).toArray⟩
theorem zerosB_L (n : Nat) : L (zerosB n) = List.replicate n 0 := L_mk _
theorem zerosB_size (n : Nat) : (zerosB n).size = n := by unfold zerosB; rw [size_mk, List.length_replicate]
theorem repeat_eq (n : Nat) (h : n ≤ 140737488300000) : strings_Repeat.f (⟨#[0]⟩ : ByteArray) (n : Int) = some (zerosB n) := by
  unfold strings_Repeat.f
  have e : (⟨#[0]⟩ : ByteArray).size = 1 := rfl
  rw [if_pos (by omega), if_pos (by omega), if_pos (by rw [e]; omega), Int.toNat_natCast]
  refine congrArg some (L_inj ?_)
  rw [zerosB_L, L_mk]
  have := Lib.repeatL_replicate 0 1 n
  rw [Nat.mul_one] at this
  exact this
theorem bytes_ev (a b c d : Int) : Ev (fun k => head_bytes.f k [a, b, c, d]) (strOfNums [a % 256, b % 256, c % 256, d % 256]) := by
  refine ⟨5, fun k hk => ?_⟩
  obtain ⟨m, rfl⟩ : ∃ m, k = m + 5 := ⟨k - 5, by omega⟩
  simp [head_bytes.f, head_bytes.l0, rd, wrap64]
def Size (p : Nat) : Prop := p = 128 ∨ p = 256 ∨ p = 512 ∨ p = 1024
def hdOf (a0 a1 a2 a3 a4 : Int) : Hd := ⟨a0.toNat, a1.toNat, a2.toNat, a3.toNat, a4.toNat⟩
def sealed (a0 a1 a2 a3 a4 : Int) (b : ByteArray) (p : Int) : ByteArray × Int := if head_may.code a0 a1 a2 a3 a4 b p = 0 then (pageB (hdOf a0 a1 a2 a3 a4) (L b) p.toNat, 0) else (⟨#[]⟩, head_may.code a0 a1 a2 a3 a4 b p)
theorem sized_iff (p : Int) : head_may.sized p = true ↔ p = 128 ∨ p = 256 ∨ p = 512 ∨ p = 1024 := by simp [head_may.sized, or_assoc]
theorem right_iff (a0 a1 a2 a3 a4 : Int) : head_may.right a0 a1 a2 a3 a4 = true ↔ 1 ≤ a0 ∧ a0 < 5 ∧ 0 ≤ a1 ∧ a1 < 256 ∧ 0 ≤ a2 ∧ a2 < 65536 ∧ 0 ≤ a3 ∧ a3 < 4096 ∧ 0 ≤ a4 ∧ a4 < 4096 := by
  simp [head_may.right, and_assoc]
theorem code_zero {a0 a1 a2 a3 a4 : Int} {b : ByteArray} {p : Int} (h : head_may.code a0 a1 a2 a3 a4 b p = 0) : ∃ (x : Hd) (P : Nat), x.ok ∧ a0 = x.k ∧ a1 = x.l ∧ a2 = x.c ∧ a3 = x.r ∧ a4 = x.s ∧ p = P ∧ Size P ∧ b.size + 16 ≤ P := by
  unfold head_may.code at h
  by_cases h1 : head_may.sized p = true
  · rw [if_pos h1] at h
    by_cases h2 : head_may.right a0 a1 a2 a3 a4 = true
    · rw [if_pos h2] at h
      by_cases h3 : p - 16 < (b.size : Int)
      · rw [if_pos h3] at h; cases h
      · have h1' := (sized_iff p).1 h1
        have h2' := (right_iff _ _ _ _ _).1 h2
        refine ⟨hdOf a0 a1 a2 a3 a4, p.toNat, ?_, ?_, ?_, ?_, ?_, ?_, ?_, ?_, ?_⟩
        · unfold Hd.ok hdOf; simp only; omega
        · show a0 = ((a0.toNat : Nat) : Int); omega
        · show a1 = ((a1.toNat : Nat) : Int); omega
        · show a2 = ((a2.toNat : Nat) : Int); omega
        · show a3 = ((a3.toNat : Nat) : Int); omega
        · show a4 = ((a4.toNat : Nat) : Int); omega
        · omega
        · unfold Size; omega
        · omega
    · rw [if_neg h2] at h; cases h
  · rw [if_neg h1] at h; cases h
theorem code_of {x : Hd} (ok : x.ok) {b : ByteArray} {P : Nat} (hP : Size P) (hb : b.size + 16 ≤ P) : head_may.code x.k x.l x.c x.r x.s b P = 0 := by
  obtain ⟨h1, h2, h3, h4, h5, h6⟩ := ok
  unfold Size at hP
  unfold head_may.code
  rw [if_pos ((sized_iff _).2 (by omega)), if_pos ((right_iff _ _ _ _ _).2 (by omega)), if_neg (by omega)]
theorem hdOf_cast (x : Hd) : hdOf x.k x.l x.c x.r x.s = x := by cases x; simp [hdOf]
theorem sealed_of {x : Hd} (ok : x.ok) {b : ByteArray} {P : Nat} (hP : Size P) (hb : b.size + 16 ≤ P) : sealed x.k x.l x.c x.r x.s b P = (pageB x (L b) P, 0) := by
  unfold sealed
  rw [if_pos (code_of ok hP hb), hdOf_cast]
  rfl
theorem sealed_not {a0 a1 a2 a3 a4 : Int} {b : ByteArray} {p : Int} (h : ¬ head_may.code a0 a1 a2 a3 a4 b p = 0) : sealed a0 a1 a2 a3 a4 b p = (⟨#[]⟩, head_may.code a0 a1 a2 a3 a4 b p) := if_neg h
def headB (x : Hd) : ByteArray := ⟨(front x).toArray⟩
theorem headB_L (x : Hd) : L (headB x) = front x := L_mk _
theorem headB_size (x : Hd) : (headB x).size = 12 := size_mk _
theorem front_four (x : Hd) : (strOfNums [(x.k : Int) % 256, (x.l : Int) % 256, (x.c : Int) % 256, ((x.c / 256 : Nat) : Int) % 256] ++ fourB x.r) ++ fourB x.s = headB x := by
  refine L_inj ?_
  rw [headB_L, L_append, L_append, fourB_L, fourB_L]
  show (strOfNums _).data.toList ++ _ ++ _ = _
  rw [strOfNums_data]
  simp only [List.map_cons, List.map_nil, front]
  rw [show ((x.k : Int) % 256).toNat = x.k % 256 by omega, show ((x.l : Int) % 256).toNat = x.l % 256 by omega, show ((x.c : Int) % 256).toNat = x.c % 256 by omega, show (((x.c / 256 : Nat) : Int) % 256).toNat = (x.c / 256) % 256 by omega, ofNat_mod, ofNat_mod, ofNat_mod, ofNat_mod]
theorem size4 (a b c d : Int) : (strOfNums [a, b, c, d]).size = 4 := strOfNums_size _
theorem z4_size : (⟨#[0, 0, 0, 0]⟩ : ByteArray).size = 4 := rfl
theorem seal_ev (a0 a1 a2 a3 a4 : Int) (b : ByteArray) (p : Int) : Ev (fun k => head_Seal.f k a0 a1 a2 a3 a4 b p) (sealed a0 a1 a2 a3 a4 b p) := by
  unfold head_Seal.f
  by_cases hc : head_may.code a0 a1 a2 a3 a4 b p = 0
  · obtain ⟨x, P, ok, rfl, rfl, rfl, rfl, rfl, rfl, hP, hb⟩ := code_zero hc
    rw [sealed_of ok hP hb]
    obtain ⟨o1, o2, o3, o4, o5, o6⟩ := ok
    unfold Size at hP
    refine ev_bind_now (show head_may.f _ _ _ _ _ _ _ = some 0 from congrArg some hc) (ev_pos rfl ?_)
    rw [Int.tdiv_eq_ediv_of_nonneg (by omega), show (x.c : Int) / 256 = ((x.c / 256 : Nat) : Int) by omega, w64 (x := ((x.c / 256 : Nat) : Int)) (by omega) (by omega), show (x.r : Int) % 4294967296 = (x.r : Int) by omega, show (x.s : Int) % 4294967296 = (x.s : Int) by omega]
    refine ev_bind (bytes_ev _ _ _ _) (ev_bind_now (four_eq _) (ev_pos (by rw [size4, fourB_size]; omega) (ev_bind_now (four_eq _) (ev_pos (by rw [ByteArray.size_append, size4, fourB_size, fourB_size]; omega) ?_))))
    rw [front_four]
    have hs := headB_size x
    refine ev_pos (by omega) (ev_pos (by rw [ByteArray.size_append, hs, z4_size]; omega) ?_)
    have hs2 : ((headB x ++ (⟨#[0, 0, 0, 0]⟩ : ByteArray)) ++ b).size = 16 + b.size := by rw [ByteArray.size_append, ByteArray.size_append, hs, z4_size]
    rw [hs2, w64 (by omega) (by omega), show (P : Int) - ((16 + b.size : Nat) : Int) = ((P - 16 - b.size : Nat) : Int) by omega]
    refine ev_bind_now (repeat_eq _ (by omega)) ?_
    have hs3 : (((headB x ++ (⟨#[0, 0, 0, 0]⟩ : ByteArray)) ++ b) ++ zerosB (P - 16 - b.size)).size = P := by rw [ByteArray.size_append, hs2, zerosB_size]; omega
    have hL : L (((headB x ++ (⟨#[0, 0, 0, 0]⟩ : ByteArray)) ++ b) ++ zerosB (P - 16 - b.size)) = front x ++ [0, 0, 0, 0] ++ rest (L b) P := by
      rw [L_append, L_append, L_append, headB_L, zerosB_L, rest, L_length, List.append_assoc, List.append_assoc]
    refine ev_pos (by rw [zerosB_size]; omega) (ev_pos (by omega) (ev_pos (by rw [hs3]; omega) (ev_bind_now (sum_eq _ (by rw [hs3]; omega)) (ev_bind_now (four_eq _) ?_))))
    have hf := front_length x
    have e12 : L ((((headB x ++ (⟨#[0, 0, 0, 0]⟩ : ByteArray)) ++ b) ++ zerosB (P - 16 - b.size)).extract 0 12) = front x := by
      rw [L_to, hL, List.append_assoc, List.take_left' hf]
    have e16 : L ((((headB x ++ (⟨#[0, 0, 0, 0]⟩ : ByteArray)) ++ b) ++ zerosB (P - 16 - b.size)).extract 16 (((headB x ++ (⟨#[0, 0, 0, 0]⟩ : ByteArray)) ++ b) ++ zerosB (P - 16 - b.size)).size) = rest (L b) P := by
      rw [L_from, hL, List.drop_left' (by simp [hf])]
    have z12 := L_length ((((headB x ++ (⟨#[0, 0, 0, 0]⟩ : ByteArray)) ++ b) ++ zerosB (P - 16 - b.size)).extract 0 12)
    have z16 := L_length ((((headB x ++ (⟨#[0, 0, 0, 0]⟩ : ByteArray)) ++ b) ++ zerosB (P - 16 - b.size)).extract 16 (((headB x ++ (⟨#[0, 0, 0, 0]⟩ : ByteArray)) ++ b) ++ zerosB (P - 16 - b.size)).size)
    rw [e12] at z12
    rw [e16, rest_length (by rw [L_length]; omega)] at z16
    refine ev_pos (by rw [fourB_size]; omega) (ev_pos (by rw [hs3]; omega) (ev_pos (by rw [ByteArray.size_append, fourB_size]; omega) (ev_some' ?_)))
    refine Prod.ext (L_inj ?_) rfl
    rw [L_append, L_append, e12, e16, fourB_L, hL, pageB_L]
    rfl
  · rw [sealed_not hc]
    exact ev_bind_now rfl (ev_neg hc ev_some)
abbrev Opened := Int × Int × Int × Int × Int × ByteArray × Int
end Go.Proofs.YtafebmhmcdnhkaaGreat.HSpec
namespace Go.Proofs.YtafebmhmcdnhkaaGreat.Spec
open Go.RowKit Go.Proofs.YtafebmhmcdnhkaaGreatW.PrintWords Go.Proofs.YtafebmhmcdnhkaaGreatW.PrintLast Go.Proofs.YtafebmhmcdnhkaaGreatW.PrintMore Go.Proofs.YtafebmhmcdnhkaaGreatEv Go.Proofs.YtafebmhmcdnhkaaGreatMath Go.Proofs.YtafebmhmcdnhkaaGreatSlot Go.Proofs.YtafebmhmcdnhkaaGreat.P Go.Proofs.YtafebmhmcdnhkaaGreatW.Abbr

theorem ev_all {α : Type} {g : Nat → Option α} {r : α} (h : ∀ k, g k = some r) : Ev g r := ⟨0, fun k _ => h k⟩
theorem append_assoc' (a b c : ByteArray) : (a ++ b) ++ c = a ++ (b ++ c) := L_inj (by simp only [L_append, List.append_assoc])
theorem size_append' (a b : ByteArray) : (a ++ b).size = a.size + b.size := by rw [← L_length, L_append, List.length_append, L_length, L_length]
/-- A number of one byte. -/
def putS (n : Nat) : ByteArray := ⟨#[UInt8.ofNat n]⟩
theorem putS_size (n : Nat) : (putS n).size = 1 := rfl
theorem putS_of (n : Nat) : strOfNums ([((n : Int)) % 256] : List Int) = putS n := by
  apply L_inj
  show (strOfNums _).data.toList = _
  rw [strOfNums_data]
  simp only [List.map_cons, List.map_nil]
  rw [show ((n : Int) % 256).toNat = n % 256 by omega]
  have : UInt8.ofNat (n % 256) = UInt8.ofNat n := by rw [← UInt8.toNat_inj]; simp
  rw [this]
  rfl
theorem wput_small (k n : Nat) (h : n ≤ 240) : word_Put.f k (IntKind.u64.wrap (n : Int)) = some (putS n) := by
  rw [u64_id (by omega) (by omega)]
  unfold word_Put.f
  rw [if_pos (by omega), putS_of]
def fourB (n : Nat) : ByteArray := strOfNums ([(n : Int) % 256, ((n : Int) / 256) % 256, ((n : Int) / 65536) % 256, ((n : Int) / 16777216) % 256] : List Int)
theorem fourB_size (n : Nat) : (fourB n).size = 4 := by
  unfold fourB
  rw [← L_length]
  show (strOfNums _).data.toList.length = _
  rw [strOfNums_data]
  rfl
theorem four_eq (n : Nat) : word_Four.f (n : Int) = some (fourB n) := rfl
/-- A kid's cell. -/
def kidC (kid : Nat) (s : ByteArray) : ByteArray := fourB kid ++ (putS s.size ++ s)
theorem kidC_size (kid : Nat) (s : ByteArray) : (kidC kid s).size = 5 + s.size := by
  unfold kidC
  rw [size_append', size_append', fourB_size, putS_size]
  omega
theorem text_ev (s : ByteArray) (h : s.size ≤ 240) : Ev (fun k => cell_text.f k s) (putS s.size ++ s) := by
  unfold cell_text.f
  exact ev_bind (ev_all fun k => wput_small k _ h) (ev_pos (by rw [putS_size]; omega) ev_some)
theorem kid_ev (kid : Nat) (s : ByteArray) (h1 : 1 ≤ kid) (h2 : kid < 4096) (hs : s.size ≤ 128) : Ev (fun k => cell_PutKid.f k (kid : Int) s) (kidC kid s, 0) := by
  unfold cell_PutKid.f cell_page.f
  refine ev_bind_now (show (if (kid : Int) ≥ 1 then some (decide ((kid : Int) < 4096)) else some false) = some true by rw [if_pos (by omega)]; simp; omega) (ev_pos rfl (ev_step ?_))
  simp only [cell_PutKid.j0]
  refine ev_neg (by simp; omega) ?_
  rw [show (kid : Int) % 4294967296 = (kid : Int) by omega]
  refine ev_bind_now (four_eq kid) (ev_bind (text_ev s (by omega)) (ev_pos ?_ ev_some))
  rw [fourB_size, size_append', putS_size]
  omega
/-- The cells of kids: the first one's text is empty. -/
def cellsOf : List Nat → List ByteArray → List ByteArray
  | [], _ => []
  | k :: ks, rest => kidC k ⟨#[]⟩ :: List.zipWith kidC ks rest
theorem cellsOf_length (k : Nat) (ks : List Nat) (rest : List ByteArray) (h : ks.length = rest.length) : (cellsOf (k :: ks) rest).length = rest.length + 1 := by
  simp [cellsOf, List.length_zipWith, h]
theorem cellsOf_get (k : Nat) (ks : List Nat) (rest : List ByteArray) (i : Nat) (hi : i < ks.length) (hr : i < rest.length) : (cellsOf (k :: ks) rest)[i + 1]? = some (kidC ks[i] rest[i]) := by
  simp [cellsOf, List.getElem?_zipWith, List.getElem?_eq_getElem hi, List.getElem?_eq_getElem hr]
def fixedB (all high : ByteArray) : ByteArray := ((putS all.size ++ all) ++ putS high.size) ++ high
theorem fixedB_size (all high : ByteArray) : (fixedB all high).size = 2 + all.size + high.size := by
  unfold fixedB
  rw [size_append', size_append', size_append', putS_size, putS_size]
  omega
theorem parts_loop (all high : ByteArray) (ha : all.size ≤ 240) (hh : high.size ≤ 240) (k0 : Nat) (ks : List Nat) (rest : List ByteArray) (hl : ks.length = rest.length) (hn : rest.length ≤ 100000) (hk : ∀ x ∈ k0 :: ks, 1 ≤ x ∧ x < 4096) (hs : ∀ s ∈ rest, s.size ≤ 128) (a b c : Int) (l4 : List Int) (l5 : List ByteArray) :
    ∀ (d i : Nat), i ≤ rest.length + 1 → rest.length + 1 - i = d →
    Ev (fun k => inner_parts.l0 k all rest ((cellsOf (k0 :: ks) rest).take i) ((k0 :: ks).map (fun x : Nat => (x : Int))) ((rest.length : Int) + 1) (i : Int) a b c high l4 l5) (fixedB all high, cellsOf (k0 :: ks) rest) := by
  intro d
  have hcl := cellsOf_length k0 ks rest hl
  induction d with
  | zero =>
    intro i h1 hd
    refine ev_step ?_
    simp only [inner_parts.l0]
    refine ev_neg (by omega) ?_
    rw [List.take_of_length_le (by omega)]
    refine ev_bind (ev_all fun k => wput_small k _ ha) (ev_pos (by rw [putS_size]; omega) (ev_bind (ev_all fun k => wput_small k _ hh) (ev_pos ?_ (ev_pos ?_ ev_some))))
    · rw [size_append', putS_size, putS_size]; omega
    · rw [size_append', size_append', putS_size, putS_size]; omega
  | succ d ih =>
    intro i h1 hd
    refine ev_step ?_
    simp only [inner_parts.l0]
    have hil : (((k0 :: ks).map (fun x : Nat => (x : Int))).length : Int) = (rest.length : Int) + 1 := by simp [hl]
    refine ev_pos (by omega) (ev_pos (by omega) (ev_pos (by omega) ?_))
    have htl : ((cellsOf (k0 :: ks) rest).take i).length = i := by rw [List.length_take]; omega
    have hnext : ∀ x, (cellsOf (k0 :: ks) rest)[i]? = some x → (cellsOf (k0 :: ks) rest).take i ++ [x] = (cellsOf (k0 :: ks) rest).take (i + 1) := fun x hx => by rw [List.take_add_one, hx]; rfl
    cases i with
    | zero =>
      refine ev_neg (by omega) ?_
      have hk0 := hk k0 (List.mem_cons_self)
      have e : rd ((k0 :: ks).map (fun x : Nat => (x : Int))) ((0 : Nat) : Int) = (k0 : Int) := rfl
      rw [e]
      refine ev_bind (kid_ev k0 ⟨#[]⟩ hk0.1 hk0.2 (by decide)) (ev_pos (by omega) ?_)
      rw [w64_succ (by omega)]
      have := ih 1 (by omega) (by omega)
      rw [← hnext _ (show (cellsOf (k0 :: ks) rest)[0]? = some (kidC k0 ⟨#[]⟩) from rfl)] at this
      exact this
    | succ j =>
      have hj : j < rest.length := by omega
      have hjk : j < ks.length := by omega
      refine ev_pos (by omega) ?_
      rw [w64 (x := ((j + 1 : Nat) : Int) - 1) (by omega) (by omega), show ((j + 1 : Nat) : Int) - 1 = (j : Int) by omega]
      refine ev_pos (by omega) (ev_pos (by omega) ?_)
      rw [rdOf_nat _ rest j hj]
      have hkj := hk ks[j] (List.mem_cons_of_mem _ (List.getElem_mem hjk))
      have e : rd ((k0 :: ks).map (fun x : Nat => (x : Int))) ((j + 1 : Nat) : Int) = (ks[j] : Int) := by
        rw [rd_nat _ (j + 1) (by simp; omega)]
        simp
      rw [e]
      refine ev_bind (kid_ev ks[j] rest[j] hkj.1 hkj.2 (hs _ (List.getElem_mem hj))) (ev_pos (by omega) ?_)
      rw [w64_succ (by omega)]
      have := ih (j + 2) (by omega) (by omega)
      rw [← hnext _ (cellsOf_get k0 ks rest j hjk hj)] at this
      exact this
/-- What a page needs. -/
def isz (k0 : Nat) (ks : List Nat) (seps : List ByteArray) (high : ByteArray) : Nat := need (fixedB (stripped seps).1 high) (cellsOf (k0 :: ks) (stripped seps).2)
theorem stripped_fst_size (seps : List ByteArray) : (stripped seps).1.size = span (seps.map L) := by
  cases seps with
  | nil => rfl
  | cons s r =>
    show (s.extract 0 (span ((s :: r).map L))).size = _
    have := span_le_size (l := s :: r) (s := s) (List.mem_cons_self)
    rw [size_extract]
    omega
theorem stripped_snd_length (seps : List ByteArray) : (stripped seps).2.length = seps.length := by simp [stripped]
theorem stripped_snd_size {seps : List ByteArray} {n : Nat} (h : ∀ s ∈ seps, s.size ≤ n) : ∀ s ∈ (stripped seps).2, s.size ≤ n := by
  intro s hs
  simp only [stripped, List.mem_map] at hs
  obtain ⟨x, hx, rfl⟩ := hs
  have := h x hx
  rw [size_extract]
  omega
theorem cat_zip : ∀ (ks : List Nat) (rest : List ByteArray), ks.length = rest.length → (cat (List.zipWith kidC ks rest)).length = 5 * rest.length + (rest.map (·.size)).sum
  | [], [], _ => rfl
  | k :: ks, s :: rest, h => by
    rw [List.zipWith_cons_cons, cat_cons, List.length_append, L_length, kidC_size, cat_zip ks rest (by simpa using h)]
    simp only [List.length_cons, List.map_cons, List.sum_cons]
    omega
theorem isz_eq (k0 : Nat) (ks : List Nat) (seps : List ByteArray) (high : ByteArray) (hl : ks.length = seps.length) :
    isz k0 ks seps high = 11 + span (seps.map L) + high.size + 7 * seps.length + ((stripped seps).2.map (·.size)).sum := by
  have h2 := stripped_snd_length seps
  unfold isz need
  rw [fixedB_size, stripped_fst_size, cellsOf_length _ _ _ (by omega)]
  show _ + (cat (kidC k0 ⟨#[]⟩ :: List.zipWith kidC ks (stripped seps).2)).length + _ = _
  rw [cat_cons, List.length_append, L_length, kidC_size, cat_zip _ _ (by omega), h2]
  show _ + (5 + 0 + _) + _ = _
  omega
theorem sum_le {n : Nat} : ∀ (l : List ByteArray), (∀ s ∈ l, s.size ≤ n) → (l.map (·.size)).sum ≤ l.length * n
  | [], _ => by simp
  | s :: l, h => by
    have h1 := h s (List.mem_cons_self)
    have h2 := sum_le l (fun x hx => h x (List.mem_cons_of_mem _ hx))
    simp only [List.map_cons, List.sum_cons, List.length_cons, Nat.succ_mul]
    omega
theorem isz_le (k0 : Nat) (ks : List Nat) (seps : List ByteArray) (high : ByteArray) (hl : ks.length = seps.length) (hs : ∀ s ∈ seps, s.size ≤ 128) (hh : high.size ≤ 240) (hn : seps.length ≤ 100000) : isz k0 ks seps high ≤ 100000000 := by
  rw [isz_eq _ _ _ _ hl]
  have h1 := sum_le _ (stripped_snd_size hs)
  have h2 : span (seps.map L) ≤ 128 := by
    cases seps with
    | nil => exact Nat.zero_le _
    | cons s r => exact Nat.le_trans (span_le_size (l := s :: r) (s := s) (List.mem_cons_self)) (hs s (List.mem_cons_self))
  have h3 := stripped_snd_length seps
  rw [h3] at h1
  omega
theorem size_ev (k0 : Nat) (ks : List Nat) (seps : List ByteArray) (high : ByteArray) (hl : ks.length = seps.length) (hk : ∀ x ∈ k0 :: ks, 1 ≤ x ∧ x < 4096) (hs : ∀ s ∈ seps, s.size ≤ 128) (hh : high.size ≤ 240) (hn : seps.length ≤ 100000) (a b c : Int) :
    Ev (fun k => inner_Size.f k a b c high ((k0 :: ks).map (fun x : Nat => (x : Int))) seps) (isz k0 ks seps high : Int) := by
  have hz := isz_le k0 ks seps high hl hs hh hn
  have h2 := stripped_snd_length seps
  have h3 : (stripped seps).1.size ≤ 240 := by
    rw [stripped_fst_size]
    cases seps with
    | nil => exact Nat.zero_le _
    | cons s r => exact Nat.le_trans (span_le_size (l := s :: r) (s := s) (List.mem_cons_self)) (Nat.le_trans (hs s (List.mem_cons_self)) (by omega))
  unfold inner_Size.f inner_parts.f
  refine ev_bind (a := (fixedB (stripped seps).1 high, cellsOf (k0 :: ks) (stripped seps).2)) ?_ (ev_bind_now (size_eq _ _ (by show need (fixedB (stripped seps).1 high) (cellsOf (k0 :: ks) (stripped seps).2) ≤ _; unfold isz at hz; omega)) ev_some)
  refine ev_bind (strip_ev seps (fun s h => Nat.le_trans (hs s h) (by omega)) (by omega)) ?_
  have := parts_loop (stripped seps).1 high h3 hh k0 ks (stripped seps).2 (by omega) (by omega) hk (stripped_snd_size hs) a b c ((k0 :: ks).map (fun x : Nat => (x : Int))) seps _ 0 (by omega) rfl
  rw [h2] at this
  have e : (((k0 :: ks).map (fun x : Nat => (x : Int))).length : Int) = (seps.length : Int) + 1 := by simp [hl]
  rw [e]
  exact this
end Go.Proofs.YtafebmhmcdnhkaaGreat.Spec
namespace Go.Proofs.YtafebmhmcdnhkaaGreat.Spec
open Go.RowKit Go.Proofs.YtafebmhmcdnhkaaGreatW.PrintWords Go.Proofs.YtafebmhmcdnhkaaGreatW.PrintLast Go.Proofs.YtafebmhmcdnhkaaGreatW.PrintMore Go.Proofs.YtafebmhmcdnhkaaGreatEv Go.Proofs.YtafebmhmcdnhkaaGreatMath Go.Proofs.YtafebmhmcdnhkaaGreat.P
def numOk (x : Int) : Bool := decide (1 ≤ x) && decide (x < 4096)
theorem number_eq (x : Int) : inner_number.f x = some (numOk x) := by
  unfold inner_number.f numOk
  by_cases h : x ≥ 1
  · rw [if_pos h, decide_eq_true (show 1 ≤ x from h)]; rfl
  · rw [if_neg h, decide_eq_false (show ¬ 1 ≤ x from h)]; rfl
def diskOk (p : Int) : Bool := decide (p = 128) || decide (p = 256) || decide (p = 512) || decide (p = 1024)
theorem disk_eq (p : Int) : disk_Size.f p = some (diskOk p) := rfl
theorem diskOk_iff (p : Int) : diskOk p = true ↔ p = 128 ∨ p = 256 ∨ p = 512 ∨ p = 1024 := by simp [diskOk, or_assoc]
theorem odd_any (l : List Int) : l.any inner_odd = !(l.all numOk) := by
  induction l with
  | nil => rfl
  | cons x r ih =>
    rw [List.any_cons, List.all_cons, ih]
    have : inner_odd x = !numOk x := rfl
    rw [this]
    cases numOk x <;> simp
/-- Seps that rise behind a, none longer than q, all below h where there is a page at the right. -/
def sepsOk (r : Int) (h : List UInt8) (q : Int) : List UInt8 → List ByteArray → Bool
  | _, [] => true
  | a, s :: l => lt a (L s) && (decide ((s.size : Int) ≤ q) && ((decide (r = 0) || lt (L s) h) && sepsOk r h q (L s) l))
theorem may_loop (a0 a1 r p : Int) (high : ByteArray) (kids : List Int) (seps l : List ByteArray) (hl : seps.length ≤ 140737488351232) : ∀ (d i : Nat) (a : ByteArray), i ≤ seps.length → seps.length - i = d →
    Ev (fun k => inner_May.l0 k p a seps (seps.length : Int) (i : Int) a0 a1 r high kids l) (sepsOk r (L high) (wrap64 (Int.tdiv p 8)) (L a) (seps.drop i)) := by
  intro d
  induction d with
  | zero =>
    intro i a h1 hd
    refine ev_step ?_
    simp only [inner_May.l0]
    refine ev_neg (by omega) (ev_some' ?_)
    rw [List.drop_of_length_le (by omega)]
    rfl
  | succ d ih =>
    intro i a h1 hd
    have hi : i < seps.length := by omega
    refine ev_step ?_
    simp only [inner_May.l0, L_toList]
    refine ev_pos (by omega) (ev_pos (by omega) (ev_pos (by omega) ?_))
    rw [rdOf_nat _ seps i hi, List.drop_eq_getElem_cons hi]
    simp only [sepsOk]
    have next : lt (L a) (L seps[i]) = true → ¬ (seps[i].size : Int) > wrap64 (Int.tdiv p 8) → (decide (r = 0) || lt (L seps[i]) (L high)) = true → Ev (fun k => inner_May.l0 k p seps[i] seps (seps.length : Int) (wrap64 ((i : Int) + 1)) a0 a1 r high kids l) (lt (L a) (L seps[i]) && (decide ((seps[i].size : Int) ≤ wrap64 (Int.tdiv p 8)) && ((decide (r = 0) || lt (L seps[i]) (L high)) && sepsOk r (L high) (wrap64 (Int.tdiv p 8)) (L seps[i]) (seps.drop (i + 1))))) := fun h2 h3 h4 => by
      rw [w64_succ (by omega)]
      refine ev_eq (ih (i + 1) seps[i] (by omega) (by omega)) ?_
      rw [h2, h4, decide_eq_true (show (seps[i].size : Int) ≤ wrap64 (Int.tdiv p 8) by omega)]
      rfl
    by_cases h2 : lt (L a) (L seps[i]) = true
    · refine ev_pos h2 ?_
      by_cases h3 : (seps[i].size : Int) > wrap64 (Int.tdiv p 8)
      · refine ev_pos h3 (ev_some' ?_)
        rw [decide_eq_false (show ¬ (seps[i].size : Int) ≤ wrap64 (Int.tdiv p 8) by omega)]
        simp
      · refine ev_neg h3 ?_
        by_cases h4 : r = 0
        · exact ev_pos h4 (next h2 h3 (by rw [decide_eq_true h4]; rfl))
        · refine ev_neg h4 ?_
          by_cases h5 : lt (L seps[i]) (L high) = true
          · exact ev_pos h5 (next h2 h3 (by rw [h5]; simp))
          · refine ev_neg h5 (ev_some' ?_)
            rw [show lt (L seps[i]) (L high) = false by simpa using h5, decide_eq_false h4]
            simp
    · refine ev_neg h2 (ev_some' ?_)
      rw [show lt (L a) (L seps[i]) = false by simpa using h2]
      rfl
theorem may_j1 (a0 a1 r p : Int) (high : ByteArray) (kids : List Int) (seps : List ByteArray) (hl : seps.length ≤ 140737488351232) (t : Bool) : Ev (fun k => inner_May.j1 k p t a0 a1 r high kids seps) (!t && sepsOk r (L high) (wrap64 (Int.tdiv p 8)) [] seps) := by
  refine ev_step ?_
  simp only [inner_May.j1]
  cases t with
  | true => exact ev_pos rfl (ev_some' rfl)
  | false => exact ev_neg (by decide) (ev_eq (may_loop a0 a1 r p high kids seps seps hl _ 0 ⟨#[]⟩ (Nat.zero_le _) rfl) (by rw [List.drop_zero]; rfl))
def mayRest (r : Int) (high : ByteArray) (kids : List Int) (seps : List ByteArray) (p : Int) : Bool :=
  decide ((kids.length : Int) = (seps.length : Int) + 1) && (kids.all numOk && (!((r == 0) != (L high == [])) && (decide ((high.size : Int) ≤ wrap64 (Int.tdiv p 8)) && sepsOk r (L high) (wrap64 (Int.tdiv p 8)) [] seps)))
theorem may_j0 (a0 a1 r p : Int) (high : ByteArray) (kids : List Int) (seps : List ByteArray) (hl : seps.length ≤ 140737488351232) (t : Bool) : Ev (fun k => inner_May.j0 k p t a0 a1 r high kids seps) (!t && mayRest r high kids seps p) := by
  have J := may_j1 a0 a1 r p high kids seps hl
  have B : Ev (fun k => inner_May.j1 k p true a0 a1 r high kids seps) false := J true
  refine ev_step ?_
  simp only [inner_May.j0, L_toList]
  cases t with
  | true => exact ev_pos rfl (ev_some' rfl)
  | false =>
    refine ev_neg (by decide) ?_
    rw [w64 (by omega) (by omega)]
    show Ev _ (mayRest r high kids seps p)
    unfold mayRest
    by_cases h1 : (kids.length : Int) = (seps.length : Int) + 1
    · rw [decide_eq_true h1]
      refine ev_pos h1 (ev_bind_now (show slices_ContainsFunc_int_int.f kids 48484848 = some (!(kids.all numOk)) by rw [← odd_any]; exact if_pos (by omega)) ?_)
      cases h2 : kids.all numOk with
      | false => exact ev_pos rfl B
      | true =>
        refine ev_neg (by decide) ?_
        cases h3 : ((r == 0) != (L high == [])) with
        | true => exact ev_pos rfl B
        | false =>
          refine ev_neg (by decide) (ev_eq (J _) ?_)
          by_cases h4 : (high.size : Int) > wrap64 (Int.tdiv p 8)
          · rw [decide_eq_true h4, decide_eq_false (show ¬ (high.size : Int) ≤ wrap64 (Int.tdiv p 8) by omega)]; rfl
          · rw [decide_eq_false h4, decide_eq_true (show (high.size : Int) ≤ wrap64 (Int.tdiv p 8) by omega)]; rfl
    · rw [decide_eq_false h1]
      exact ev_neg h1 B
def mayOk (a0 a1 r : Int) (high : ByteArray) (kids : List Int) (seps : List ByteArray) (p : Int) : Bool :=
  diskOk p && (numOk a0 && (decide (1 ≤ a1) && (decide (a1 < 256) && ((decide (r = 0) || numOk r) && (!(r == a0) && mayRest r high kids seps p)))))
theorem may_ev (a0 a1 r : Int) (high : ByteArray) (kids : List Int) (seps : List ByteArray) (p : Int) (hl : seps.length ≤ 140737488351232) : Ev (fun k => inner_May.f k a0 a1 r high kids seps p) (mayOk a0 a1 r high kids seps p) := by
  have J := may_j0 a0 a1 r p high kids seps hl
  have B : Ev (fun k => inner_May.j0 k p true a0 a1 r high kids seps) false := J true
  unfold inner_May.f mayOk
  refine ev_bind_now (disk_eq p) ?_
  cases h0 : diskOk p with
  | false => exact ev_neg (by decide) B
  | true =>
    refine ev_pos rfl (ev_bind_now (number_eq a0) ?_)
    cases h1 : numOk a0 with
    | false => exact ev_neg (by decide) B
    | true =>
      refine ev_pos rfl ?_
      by_cases h2 : a1 < 1
      · rw [decide_eq_false (show ¬ 1 ≤ a1 by omega)]
        exact ev_pos h2 B
      · rw [decide_eq_true (show 1 ≤ a1 by omega)]
        refine ev_neg h2 ?_
        by_cases h3 : a1 ≥ 256
        · rw [decide_eq_false (show ¬ a1 < 256 by omega)]
          exact ev_pos h3 B
        · rw [decide_eq_true (show a1 < 256 by omega)]
          refine ev_neg h3 ?_
          by_cases h4 : r = 0
          · rw [decide_eq_true h4]
            exact ev_pos h4 (J _)
          · rw [decide_eq_false h4]
            refine ev_neg h4 (ev_bind_now (number_eq r) ?_)
            cases h5 : numOk r with
            | false => exact ev_neg (by decide) B
            | true => exact ev_pos rfl (J _)
/-! ### what that says -/
theorem numOk_iff (x : Int) : numOk x = true ↔ 1 ≤ x ∧ x < 4096 := by simp [numOk]
theorem sepsOk_size {r : Int} {h : List UInt8} {q : Int} : ∀ {l : List ByteArray} {a : List UInt8}, sepsOk r h q a l = true → ∀ s ∈ l, (s.size : Int) ≤ q
  | [], _, _, s, hs => by cases hs
  | x :: l, a, e, s, hs => by
    simp only [sepsOk, Bool.and_eq_true, decide_eq_true_eq] at e
    rcases List.mem_cons.1 hs with rfl | hs
    · exact e.2.1
    · exact sepsOk_size e.2.2.2 s hs
theorem q8 {p : Int} (h : p = 128 ∨ p = 256 ∨ p = 512 ∨ p = 1024) : 8 * wrap64 (Int.tdiv p 8) = p := by
  rw [Int.tdiv_eq_ediv_of_nonneg (by omega), w64 (by omega) (by omega)]
  omega
theorem may_facts {a0 a1 r : Int} {high : ByteArray} {kids : List Int} {seps : List ByteArray} {p : Int} (h : mayOk a0 a1 r high kids seps p = true) :
    (p = 128 ∨ p = 256 ∨ p = 512 ∨ p = 1024) ∧ (1 ≤ a0 ∧ a0 < 4096) ∧ (1 ≤ a1 ∧ a1 < 256) ∧ (0 ≤ r ∧ r < 4096) ∧ r ≠ a0 ∧ kids.length = seps.length + 1 ∧ (∀ x ∈ kids, 1 ≤ x ∧ x < 4096) ∧ (r = 0 ↔ L high = []) ∧ 8 * (high.size : Int) ≤ p ∧ (∀ s ∈ seps, 8 * (s.size : Int) ≤ p) ∧ sepsOk r (L high) (wrap64 (Int.tdiv p 8)) [] seps = true := by
  simp only [mayOk, mayRest, Bool.and_eq_true, Bool.or_eq_true, decide_eq_true_eq, Bool.not_eq_true', beq_eq_false_iff_ne, ne_eq, numOk_iff, diskOk_iff, List.all_eq_true] at h
  obtain ⟨h0, h1, h2, h3, h4, h5, h6, h7, h8, h9, h10⟩ := h
  have hq := q8 h0
  have hs := sepsOk_size h10
  refine ⟨h0, h1, ⟨h2, h3⟩, by omega, h5, by omega, h7, ?_, by omega, fun s m => by have := hs s m; omega, h10⟩
  have : (r == 0) = (L high == []) := by simpa using h8
  rw [← beq_iff_eq, ← beq_iff_eq (a := L high), this]
theorem may_of {a0 a1 r : Int} {high : ByteArray} {kids : List Int} {seps : List ByteArray} {p : Int} (h0 : p = 128 ∨ p = 256 ∨ p = 512 ∨ p = 1024) (h1 : 1 ≤ a0 ∧ a0 < 4096) (h2 : 1 ≤ a1 ∧ a1 < 256) (h4 : 0 ≤ r ∧ r < 4096) (h5 : r ≠ a0) (h6 : kids.length = seps.length + 1) (h7 : ∀ x ∈ kids, 1 ≤ x ∧ x < 4096) (h8 : r = 0 ↔ L high = []) (h9 : 8 * (high.size : Int) ≤ p) (h10 : sepsOk r (L high) (wrap64 (Int.tdiv p 8)) [] seps = true) : mayOk a0 a1 r high kids seps p = true := by
  have hq := q8 h0
  simp only [mayOk, mayRest, Bool.and_eq_true, Bool.or_eq_true, decide_eq_true_eq, Bool.not_eq_true', beq_eq_false_iff_ne, ne_eq, numOk_iff, diskOk_iff, List.all_eq_true]
  refine ⟨h0, h1, h2.1, h2.2, by omega, h5, by omega, h7, ?_, by omega, h10⟩
  have : (r == 0) = (L high == []) := by
    rw [Bool.eq_iff_iff, beq_iff_eq, beq_iff_eq]
    exact h8
  rw [this]
  simp
end Go.Proofs.YtafebmhmcdnhkaaGreat.Spec
namespace Go.Proofs.YtafebmhmcdnhkaaGreat.Spec
open Go.RowKit Go.Proofs.YtafebmhmcdnhkaaGreatW.PrintWords Go.Proofs.YtafebmhmcdnhkaaGreatW.PrintLast Go.Proofs.YtafebmhmcdnhkaaGreatW.PrintMore Go.Proofs.YtafebmhmcdnhkaaGreatEv Go.Proofs.YtafebmhmcdnhkaaGreatMath Go.Proofs.YtafebmhmcdnhkaaGreatSlot Go.Proofs.YtafebmhmcdnhkaaGreat.P Go.Proofs.YtafebmhmcdnhkaaGreatW.Abbr
theorem stripped_fst_le {seps : List ByteArray} {n : Nat} (hs : ∀ s ∈ seps, s.size ≤ n) : (stripped seps).1.size ≤ n := by
  rw [stripped_fst_size]
  cases seps with
  | nil => exact Nat.zero_le _
  | cons s r => exact Nat.le_trans (span_le_size (l := s :: r) (s := s) (List.mem_cons_self)) (hs s (List.mem_cons_self))
theorem parts_ev (k0 : Nat) (ks : List Nat) (seps : List ByteArray) (high : ByteArray) (hl : ks.length = seps.length) (hk : ∀ x ∈ k0 :: ks, 1 ≤ x ∧ x < 4096) (hs : ∀ s ∈ seps, s.size ≤ 128) (hh : high.size ≤ 240) (hn : seps.length ≤ 100000) (a b c : Int) :
    Ev (fun k => inner_parts.f k a b c high ((k0 :: ks).map (fun x : Nat => (x : Int))) seps) (fixedB (stripped seps).1 high, cellsOf (k0 :: ks) (stripped seps).2) := by
  have h2 := stripped_snd_length seps
  have h3 : (stripped seps).1.size ≤ 240 := stripped_fst_le fun s h => Nat.le_trans (hs s h) (by omega)
  unfold inner_parts.f
  refine ev_bind (strip_ev seps (fun s h => Nat.le_trans (hs s h) (by omega)) (by omega)) ?_
  have := parts_loop (stripped seps).1 high h3 hh k0 ks (stripped seps).2 (by omega) (by omega) hk (stripped_snd_size hs) a b c ((k0 :: ks).map (fun x : Nat => (x : Int))) seps _ 0 (by omega) rfl
  rw [h2] at this
  have e : (((k0 :: ks).map (fun x : Nat => (x : Int))).length : Int) = (seps.length : Int) + 1 := by simp [hl]
  rw [e]
  exact this
/-- The body of a page, with so much room; how many bytes it needs. -/
def inNeed (kids : List Int) (seps : List ByteArray) (high : ByteArray) : Nat := need (fixedB (stripped seps).1 high) (cellsOf (kids.map Int.toNat) (stripped seps).2)
def inBody (room : Nat) (kids : List Int) (seps : List ByteArray) (high : ByteArray) : ByteArray := body room (fixedB (stripped seps).1 high) (cellsOf (kids.map Int.toNat) (stripped seps).2)
def inHd (a0 a1 r : Int) (kids : List Int) : Go.Proofs.YtafebmhmcdnhkaaGreatHead.Hd := ⟨3, a1.toNat, kids.length, r.toNat, a0.toNat⟩
def inPage (a0 a1 r : Int) (high : ByteArray) (kids : List Int) (seps : List ByteArray) (p : Nat) : ByteArray := Go.Proofs.YtafebmhmcdnhkaaGreatHead.pageB (inHd a0 a1 r kids) (L (inBody (p - 16) kids seps high)) p
def enc (a0 a1 r : Int) (high : ByteArray) (kids : List Int) (seps : List ByteArray) (p : Int) : ByteArray × Int :=
  if diskOk p = true then (if mayOk a0 a1 r high kids seps p = true then (if (inNeed kids seps high : Int) ≤ p - 16 then (inPage a0 a1 r high kids seps p.toNat, 0) else (⟨#[]⟩, 8)) else (⟨#[]⟩, 3)) else (⟨#[]⟩, 4)
theorem cellsOf_len : ∀ (ks : List Nat) (rest : List ByteArray), ks.length = rest.length + 1 → (cellsOf ks rest).length = rest.length + 1
  | k :: ks, rest, h => cellsOf_length k ks rest (by simpa using h)
theorem nat_kids {kids : List Int} (h : ∀ x ∈ kids, 1 ≤ x ∧ x < 4096) : (kids.map Int.toNat).map (fun x : Nat => (x : Int)) = kids := by
  rw [List.map_map]
  refine (List.map_congr_left fun x hx => ?_).trans (List.map_id kids)
  have := h x hx
  show ((x.toNat : Nat) : Int) = id x
  simp only [id]
  omega
theorem size_cases {p : Int} (h : p = 128 ∨ p = 256 ∨ p = 512 ∨ p = 1024) : ∃ P : Nat, p = (P : Int) ∧ HSpec.Size P := by
  refine ⟨p.toNat, by omega, ?_⟩
  show p.toNat = 128 ∨ p.toNat = 256 ∨ p.toNat = 512 ∨ p.toNat = 1024
  omega
theorem need_len (f : ByteArray) (cs : List ByteArray) : 2 * cs.length ≤ need f cs := by unfold need; omega
theorem inNeed_isz (k0 : Nat) (ks : List Nat) (kids : List Int) (seps : List ByteArray) (high : ByteArray) (e : kids.map Int.toNat = k0 :: ks) : inNeed kids seps high = isz k0 ks seps high := by unfold inNeed isz; rw [e]
theorem enc_ev (a0 a1 r : Int) (high : ByteArray) (kids : List Int) (seps : List ByteArray) (p : Int) (hl : seps.length ≤ 100000) : Ev (fun k => inner_Encode.f k a0 a1 r high kids seps p) (enc a0 a1 r high kids seps p) := by
  unfold inner_Encode.f enc
  refine ev_bind_now (disk_eq p) ?_
  by_cases hd : diskOk p = true
  · rw [if_pos hd]
    refine ev_pos hd (ev_bind (may_ev a0 a1 r high kids seps p (by omega)) ?_)
    by_cases hm : mayOk a0 a1 r high kids seps p = true
    · rw [if_pos hm]
      refine ev_pos hm ?_
      obtain ⟨h0, h1, h2, h3, h4, h5, h6, h7, h8, h9, h10⟩ := may_facts hm
      obtain ⟨P, rfl, hP⟩ := size_cases h0
      have hb : P ≤ 1024 ∧ 128 ≤ P := by rcases hP with rfl | rfl | rfl | rfl <;> omega
      obtain ⟨k0, ks, ek⟩ : ∃ k0 ks, kids.map Int.toNat = k0 :: ks := by
        cases h : kids.map Int.toNat with
        | nil =>
          have h11 : (kids.map Int.toNat).length = 0 := by rw [h]; rfl
          rw [List.length_map] at h11
          omega
        | cons a b => exact ⟨a, b, rfl⟩
      have en := nat_kids h6
      have hlen : ks.length = seps.length := by have := congrArg List.length ek; simp at this; omega
      have hk : ∀ x ∈ k0 :: ks, 1 ≤ x ∧ x < 4096 := fun x hx => by
        rw [← ek] at hx
        obtain ⟨y, hy, rfl⟩ := List.mem_map.1 hx
        have := h6 y hy
        omega
      have hs : ∀ s ∈ seps, s.size ≤ 128 := fun s m => by have := h9 s m; omega
      have hh : high.size ≤ 240 := by omega
      have hz := isz_le k0 ks seps high hlen hs hh hl
      have ei := inNeed_isz k0 ks kids seps high ek
      have ep := parts_ev k0 ks seps high hlen hk hs hh hl a0 a1 r
      rw [← ek, en] at ep
      refine ev_bind ep ?_
      have ew : wrap64 ((P : Int) - 16) = ((P - 16 : Nat) : Int) := by rw [w64 (by omega) (by omega)]; omega
      rw [ew]
      have hneed : need (fixedB (stripped seps).1 high) (cellsOf (kids.map Int.toNat) (stripped seps).2) = inNeed kids seps high := rfl
      refine ev_bind (pack_ev ((P - 16 : Nat) : Int) (fixedB (stripped seps).1 high) (cellsOf (kids.map Int.toNat) (stripped seps).2) (by rw [hneed, ei]; omega)) ?_
      by_cases hf : (inNeed kids seps high : Int) ≤ (P : Int) - 16
      · rw [if_pos hf, packed_ok (room := P - 16) (f := (fixedB (stripped seps).1 high)) (cs := (cellsOf (kids.map Int.toNat) (stripped seps).2)) (by rw [hneed]; omega) (by omega)]
        refine ev_pos rfl ?_
        have hcl : (cellsOf (kids.map Int.toNat) (stripped seps).2).length = kids.length := by
          rw [cellsOf_len _ _ (by rw [List.length_map, stripped_snd_length]; omega), stripped_snd_length]
          omega
        have hnl := need_len (fixedB (stripped seps).1 high) (cellsOf (kids.map Int.toNat) (stripped seps).2)
        rw [hcl, hneed] at hnl
        have hbs : (body (P - 16) (fixedB (stripped seps).1 high) (cellsOf (kids.map Int.toNat) (stripped seps).2)).size = P - 16 := body_size (by rw [hneed]; omega)
        have ok : (inHd a0 a1 r kids).ok := by
          show 1 ≤ 3 ∧ 3 < 5 ∧ a1.toNat < 256 ∧ kids.length < 65536 ∧ r.toNat < 4096 ∧ a0.toNat < 4096
          omega
        have hseal := HSpec.sealed_of (x := inHd a0 a1 r kids) ok (b := body (P - 16) (fixedB (stripped seps).1 high) (cellsOf (kids.map Int.toNat) (stripped seps).2)) hP (by omega)
        have e1 : ((inHd a0 a1 r kids).l : Int) = a1 := by show ((a1.toNat : Nat) : Int) = a1; omega
        have e2 : ((inHd a0 a1 r kids).r : Int) = r := by show ((r.toNat : Nat) : Int) = r; omega
        have e3 : ((inHd a0 a1 r kids).s : Int) = a0 := by show ((a0.toNat : Nat) : Int) = a0; omega
        rw [e1, e2, e3] at hseal
        refine ev_bind (ev_eq (HSpec.seal_ev 3 a1 (kids.length : Int) r a0 (body (P - 16) (fixedB (stripped seps).1 high) (cellsOf (kids.map Int.toNat) (stripped seps).2)) (P : Int)) hseal) (ev_some' rfl)
      · rw [if_neg hf, packed_much (room := P - 16) (f := (fixedB (stripped seps).1 high)) (cs := (cellsOf (kids.map Int.toNat) (stripped seps).2)) (by rw [hneed]; omega) (by omega)]
        exact ev_neg (by decide) (ev_some' rfl)
    · rw [if_neg hm]
      exact ev_neg hm (ev_some' rfl)
  · rw [if_neg hd]
    exact ev_neg hd (ev_some' rfl)
end Go.Proofs.YtafebmhmcdnhkaaGreat.Spec
namespace Go.Proofs.YtafebmhmcdnhkaaGreat.Spec
open Go.RowKit Go.Proofs.YtafebmhmcdnhkaaGreatW.PrintWords Go.Proofs.YtafebmhmcdnhkaaGreatW.PrintLast Go.Proofs.YtafebmhmcdnhkaaGreatW.PrintMore Go.Proofs.YtafebmhmcdnhkaaGreatEv Go.Proofs.YtafebmhmcdnhkaaGreatMath Go.Proofs.YtafebmhmcdnhkaaGreat.P
def cut60 (s : ByteArray) : ByteArray := s.extract 0 (min s.size 60)
def cutAll (l : List ByteArray) : List ByteArray := (l.take 30).map cut60
theorem cut60_size (s : ByteArray) : (cut60 s).size = min s.size 60 := by unfold cut60; rw [size_extract]; omega
theorem cutAll_size {l : List ByteArray} {s : ByteArray} (h : s ∈ cutAll l) : s.size ≤ 60 := by
  obtain ⟨t, _, rfl⟩ := List.mem_map.1 h
  rw [cut60_size]
  omega
theorem cutAll_length (l : List ByteArray) : (cutAll l).length ≤ 30 := by unfold cutAll; simp; omega
theorem mn60 (s : ByteArray) : (mn (s.size : Int) 60).toNat = min s.size 60 := by rw [mn_eq]; omega
theorem cut30_loop (l : List ByteArray) : ∀ (d i : Nat) (acc : List ByteArray), i ≤ 30 → i ≤ l.length → acc.length = i → min l.length 30 - i = d →
    Ev (fun k => withylaw05_Cut.l0 k l acc (i : Int)) (acc ++ ((l.take 30).drop i).map cut60) := by
  intro d
  induction d with
  | zero =>
    intro i acc h1 h2 ha hd
    refine ev_step ?_
    simp only [withylaw05_Cut.l0]
    rw [List.drop_of_length_le (by simp <;> omega), List.map_nil, List.append_nil]
    by_cases h : i < l.length
    · exact ev_pos (by omega) (ev_neg (by omega) ev_some)
    · exact ev_neg (by omega) ev_some
  | succ d ih =>
    intro i acc h1 h2 ha hd
    have hi : i < l.length := by omega
    have hi' : i < (l.take 30).length := by simp; omega
    refine ev_step ?_
    simp only [withylaw05_Cut.l0]
    rw [rdOf_nat _ l i hi, mn60]
    have hm := mn_eq (l[i].size : Int) 60
    refine ev_pos (by omega) (ev_pos (by omega) (ev_pos (by omega) (ev_pos (by omega) (ev_pos (by omega) (ev_pos (by omega) ?_)))))
    rw [w64_succ (by omega)]
    refine ev_eq (ih (i + 1) _ (by omega) (by omega) (by simp <;> omega) (by omega)) ?_
    rw [List.drop_eq_getElem_cons hi', List.map_cons, List.append_assoc, List.getElem_take]
    rfl
theorem cut_ev (l : List ByteArray) : Ev (fun k => withylaw05_Cut.f k l) (cutAll l) := by
  unfold withylaw05_Cut.f
  refine ev_eq (cut30_loop l _ 0 [] (Nat.zero_le _) (Nat.zero_le _) rfl rfl) ?_
  rw [List.drop_zero, List.nil_append]
  rfl
end Go.Proofs.YtafebmhmcdnhkaaGreat.Spec
namespace Go.Proofs.YtafebmhmcdnhkaaGreat.Spec
open Go.RowKit Go.Proofs.YtafebmhmcdnhkaaGreatW.PrintWords Go.Proofs.YtafebmhmcdnhkaaGreatW.PrintLast Go.Proofs.YtafebmhmcdnhkaaGreatW.PrintMore Go.Proofs.YtafebmhmcdnhkaaGreatEv Go.Proofs.YtafebmhmcdnhkaaGreatMath Go.Proofs.YtafebmhmcdnhkaaGreatSlot Go.Proofs.YtafebmhmcdnhkaaGreat.P Go.Proofs.YtafebmhmcdnhkaaGreatW.Abbr
def cut140 (s : ByteArray) : ByteArray := s.extract 0 (min s.size 140)
def cutSeps (l : List ByteArray) : List ByteArray := match l with | [] => [] | s :: r => cut140 s :: (r.take 29).map cut60
theorem mn140 (s : ByteArray) : (mn (s.size : Int) 140).toNat = min s.size 140 := by rw [mn_eq]; omega
theorem cutSeps_length (l : List ByteArray) : (cutSeps l).length ≤ 30 := by
  cases l with
  | nil => exact Nat.zero_le _
  | cons s r => simp [cutSeps]; omega
theorem icut_ev (a0 a1 a2 : Int) (a3 : ByteArray) (l4 : List Int) (l5 : List ByteArray) : Ev (fun k => withylaw11_Cut.f k a0 a1 a2 a3 l4 l5) (a0, a1, a2, cut140 a3, l4.take 30, cutSeps l5) := by
  have h1 := mn_eq (a3.size : Int) 140
  have h2 := mn_eq (l4.length : Int) 30
  have e2 : l4.take ((mn (l4.length : Int) 30) : Int).toNat = l4.take 30 := by
    rw [show ((mn (l4.length : Int) 30) : Int).toNat = min l4.length 30 by omega]
    rcases Nat.le_total l4.length 30 with h | h
    · rw [Nat.min_eq_left h, List.take_of_length_le (Nat.le_refl _), List.take_of_length_le h]
    · rw [Nat.min_eq_right h]
  unfold withylaw11_Cut.f
  rw [e2, mn140]
  refine ev_pos (by omega) (ev_pos (by omega) (ev_bind_now rfl (ev_pos (by omega) (ev_pos (by omega) (ev_pos (by simp; omega) (ev_bind_now rfl (ev_bind (cut_ev l5) ?_)))))))
  cases l5 with
  | nil => exact ev_neg (by simp) (ev_some' rfl)
  | cons s r =>
    have h3 := mn_eq (s.size : Int) 140
    rw [rdOf_zero, mn140]
    refine ev_pos (by simp) (ev_pos (by simp) (ev_pos (by omega) (ev_pos (by omega) (ev_pos (by simp [cutAll]) (ev_some' ?_)))))
    rfl
end Go.Proofs.YtafebmhmcdnhkaaGreat.Spec
namespace Go.Proofs.YtafebmhmcdnhkaaGreat.Spec
open Go.RowKit Go.Proofs.YtafebmhmcdnhkaaGreatW.PrintWords Go.Proofs.YtafebmhmcdnhkaaGreatW.PrintLast Go.Proofs.YtafebmhmcdnhkaaGreatW.PrintMore Go.Proofs.YtafebmhmcdnhkaaGreatEv Go.Proofs.YtafebmhmcdnhkaaGreatMath Go.Proofs.YtafebmhmcdnhkaaGreatSlot Go.Proofs.YtafebmhmcdnhkaaGreat.P Go.Proofs.YtafebmhmcdnhkaaGreatW.Abbr
set_option maxRecDepth 100000 in
theorem ifixed_ev : Ev (fun k => withylaw11_fixed.f k) true := Ev.of withylaw11_fixed.mono (k := 200) (by decide +kernel)
theorem ifin_ev : Ev (fun k => (withylaw11_fixed.f k).bind fun t => some t) true := ev_bind ifixed_ev ev_some
end Go.Proofs.YtafebmhmcdnhkaaGreat.Spec
