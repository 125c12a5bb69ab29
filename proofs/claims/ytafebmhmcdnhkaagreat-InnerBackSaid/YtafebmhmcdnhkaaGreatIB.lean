/- What is proved here: what an inner page is decoded as, in the program: a page that is encoded of something is decoded as that; whatever else is decoded is nothing. Conditions: sizes within the form's reach. -/
import Derived.Laws.Strings
import Derived.Test.YtafebmhmcdnhkaaGreatEv
import Derived.Laws.BitsAllLaws
import Derived.Test.YtafebmhmcdnhkaaGreatPF
import Derived.Test.YtafebmhmcdnhkaaGreatPS
import Derived.Test.YtafebmhmcdnhkaaGreatWAbbr
set_option linter.unusedVariables false
set_option linter.unusedSimpArgs false
namespace Go.Proofs.YtafebmhmcdnhkaaGreatMath
def cp : List UInt8 → List UInt8 → Nat
 | x :: a, y :: b => if x = y then cp a b + 1 else 0
 | _, _ => 0
theorem cp_nil_left (b : List UInt8) : cp [] b = 0 := by cases b <;> rfl
theorem cp_nil_right (a : List UInt8) : cp a [] = 0 := by cases a <;> rfl
theorem cp_cons (x y : UInt8) (a b : List UInt8) : cp (x :: a) (y :: b) = if x = y then cp a b + 1 else 0 := rfl
theorem cp_comm : ∀ a b : List UInt8, cp a b = cp b a
 | [], b => by rw [cp_nil_left, cp_nil_right]
 | a, [] => by rw [cp_nil_left, cp_nil_right]
 | x :: a, y :: b => by
  rw [cp_cons, cp_cons, cp_comm a b]
  by_cases h : x = y
  ·
   rw [if_pos h, if_pos h.symm]
  ·
   rw [if_neg h, if_neg (fun e => h e.symm)]
theorem cp_le_left : ∀ a b : List UInt8, cp a b ≤ a.length
 | [], b => by rw [cp_nil_left]; exact Nat.zero_le _
 | x :: a, [] => by rw [cp_nil_right]; exact Nat.zero_le _
 | x :: a, y :: b => by
  rw [cp_cons]
  have := cp_le_left a b
  split
  ·
   simp; omega
  ·
   exact Nat.zero_le _
theorem cp_le_right (a b : List UInt8) : cp a b ≤ b.length := by rw [cp_comm]; exact cp_le_left b a
theorem cp_ge_iff : ∀ (n : Nat) (a b : List UInt8), n ≤ cp a b ↔ n ≤ a.length ∧ n ≤ b.length ∧ a.take n = b.take n
 | 0, a, b => by simp
 | n + 1, [], b => by rw [cp_nil_left]; simp
 | n + 1, x :: a, [] => by rw [cp_nil_right]; simp
 | n + 1, x :: a, y :: b => by
  rw [cp_cons]
  by_cases h : x = y
  ·
   rw [if_pos h]
   have := cp_ge_iff n a b
   simp only [List.length_cons, List.take_succ_cons, List.cons.injEq]
   constructor
   ·
    intro hh
    obtain ⟨h1, h2, h3⟩ := this.1 (by omega)
    exact ⟨by omega, by omega, h, h3⟩
   ·
    rintro ⟨h1, h2, _, h3⟩
    have := this.2 ⟨by omega, by omega, h3⟩
    omega
  ·
   rw [if_neg h]
   constructor
   ·
    intro hh; omega
   ·
    rintro ⟨_, _, h3⟩
    simp only [List.take_succ_cons, List.cons.injEq] at h3
    exact absurd h3.1 h
theorem cp_of_get : ∀ (n : Nat) (a b : List UInt8), n ≤ a.length → n ≤ b.length → (∀ j, j < n → a[j]? = b[j]?) → (n = a.length ∨ n = b.length ∨ a[n]? ≠ b[n]?) → cp a b = n := by
 intro n a b h1 h2 h3 h4
 have hge : n ≤ cp a b := (cp_ge_iff n a b).2 ⟨h1, h2, by
  apply List.ext_getElem?
  intro i
  rw [List.getElem?_take, List.getElem?_take]
  split
  ·
   exact h3 i (by assumption)
  ·
   rfl⟩
 have hl := cp_le_left a b
 have hr := cp_le_right a b
 rcases Nat.lt_or_ge n (cp a b) with hlt | hge2
 ·
  rcases h4 with h4 | h4 | h4
  ·
   omega
  ·
   omega
  ·
   exfalso
   apply h4
   have h5 := (cp_ge_iff (n + 1) a b).1 (by omega)
   have h6 := congrArg (fun l : List UInt8 => l[n]?) h5.2.2
   simpa [List.getElem?_take] using h6
 ·
  omega
abbrev lt (a b : List UInt8) : Bool := Op.bytesLess a b
def spanFrom (a : List UInt8) : List (List UInt8) → Nat
 | [] => a.length
 | s :: r => min (cp a s) (spanFrom a r)
def span : List (List UInt8) → Nat
 | [] => 0
 | a :: r => spanFrom a r
theorem spanFrom_le (a : List UInt8) : ∀ r, spanFrom a r ≤ a.length
 | [] => Nat.le_refl _
 | s :: r => by have := spanFrom_le a r; unfold spanFrom; omega
theorem spanFrom_ge_iff (a : List UInt8) (n : Nat) : ∀ r, n ≤ spanFrom a r ↔ n ≤ a.length ∧ ∀ s ∈ r, n ≤ cp a s
 | [] => by simp [spanFrom]
 | s :: r => by
  unfold spanFrom
  rw [Nat.le_min, spanFrom_ge_iff a n r]
  simp only [List.mem_cons, forall_eq_or_imp]
  constructor
  ·
   rintro ⟨h1, h2, h3⟩; exact ⟨h2, h1, h3⟩
  ·
   rintro ⟨h2, h1, h3⟩; exact ⟨h1, h2, h3⟩
theorem span_all {l : List (List UInt8)} {n : Nat} (h : n ≤ span l) {a : List UInt8} (ha : l.head? = some a) : ∀ s ∈ l, n ≤ s.length ∧ s.take n = a.take n := by
 cases l with
 | nil => simp at ha
 | cons b r =>
  have : b = a := by simpa using ha
  subst this
  obtain ⟨h1, h2⟩ := (spanFrom_ge_iff b n r).1 h
  intro s hs
  rcases List.mem_cons.1 hs with rfl | hs
  ·
   exact ⟨h1, rfl⟩
  ·
   have := (cp_ge_iff n b s).1 (h2 s hs)
   exact ⟨this.2.1, this.2.2.symm⟩
end Go.Proofs.YtafebmhmcdnhkaaGreatMath
namespace Go.Proofs.YtafebmhmcdnhkaaGreatSlot
open Go.RowKit Go.Proofs.YtafebmhmcdnhkaaGreatW.PrintWords Go.Proofs.YtafebmhmcdnhkaaGreatW.PrintMore Go.Proofs.YtafebmhmcdnhkaaGreatEv
def place (n : Nat) : List UInt8 := [UInt8.ofNat n, UInt8.ofNat (n / 256)]
def cat (cs : List ByteArray) : List UInt8 := (cs.map L).flatten
def dir : Nat → List ByteArray → List UInt8
 | p, [] => place p
 | p, c :: cs => dir (p + c.size) cs ++ place p
def need (f : ByteArray) (cs : List ByteArray) : Nat := f.size + (cat cs).length + 2 * (cs.length + 1)
def body (room : Nat) (f : ByteArray) (cs : List ByteArray) : ByteArray := ⟨(L f ++ cat cs ++ List.replicate (room - need f cs) 0 ++ dir f.size cs).toArray⟩
def packed (room : Int) (f : ByteArray) (cs : List ByteArray) : ByteArray × Int :=
 if room < 0 ∨ room > 65535 then (⟨#[]⟩, 4) else if (need f cs : Int) > room then (⟨#[]⟩, 8) else (body room.toNat f cs, 0)
theorem cat_nil : cat [] = [] := rfl
theorem cat_cons (c : ByteArray) (cs : List ByteArray) : cat (c :: cs) = L c ++ cat cs := by simp [cat]
theorem cat_length_le (n : Nat) : ∀ (cs : List ByteArray), (∀ c ∈ cs, c.size ≤ n) → (cat cs).length ≤ cs.length * n
 | [], _ => by simp [cat]
 | c :: cs, h => by
  have h1 := cat_length_le n cs (fun x hx => h x (List.mem_cons_of_mem _ hx))
  have h2 := h c List.mem_cons_self
  rw [cat_cons, List.length_append, L_length, List.length_cons, Nat.add_mul]
  omega
theorem dir_length : ∀ (p : Nat) (cs : List ByteArray), (dir p cs).length = 2 * (cs.length + 1)
 | p, [] => rfl
 | p, c :: cs => by
  simp only [dir, List.length_append, dir_length _ cs, place, List.length_cons, List.length_nil]
  omega
theorem L_mk (l : List UInt8) : L ⟨l.toArray⟩ = l := by simp
theorem size_mk (l : List UInt8) : (⟨l.toArray⟩ : ByteArray).size = l.length := by rw [← L_length, L_mk]
theorem body_L (room : Nat) (f : ByteArray) (cs : List ByteArray) : L (body room f cs) = L f ++ cat cs ++ List.replicate (room - need f cs) 0 ++ dir f.size cs := L_mk _
theorem body_size {room : Nat} {f : ByteArray} {cs : List ByteArray} (h : need f cs ≤ room) : (body room f cs).size = room := by
 have hn : need f cs = f.size + (cat cs).length + 2 * (cs.length + 1) := rfl
 have h1 := L_length f
 have h2 := dir_length f.size cs
 rw [← L_length, body_L]
 simp only [List.length_append, List.length_replicate]
 omega
def ent (l : List UInt8) (i : Nat) : Nat := (l.getD (l.length - 2 * (i + 1)) 0).toNat + 256 * (l.getD (l.length - 2 * (i + 1) + 1) 0).toNat
theorem ent_last (l : List UInt8) (n : Nat) (h : n < 65536) : ent (l ++ place n) 0 = n := by
 unfold ent place
 have e1 : (l ++ [UInt8.ofNat n, UInt8.ofNat (n / 256)]).length - 2 * (0 + 1) = l.length := by simp
 rw [e1]
 simp [List.getD_eq_getElem?_getD, List.getElem?_append_right]
 omega
theorem ent_succ (l : List UInt8) (n i : Nat) (h : 2 * (i + 1) ≤ l.length) : ent (l ++ place n) (i + 1) = ent l i := by
 unfold ent
 have e1 : (l ++ place n).length - 2 * (i + 1 + 1) = l.length - 2 * (i + 1) := by simp [place]; omega
 rw [e1]
 simp only [List.getD_eq_getElem?_getD]
 rw [List.getElem?_append_left (by omega), List.getElem?_append_left (by omega)]
def pos : Nat → List ByteArray → Nat → Nat
 | p, _, 0 => p
 | p, [], _ + 1 => p
 | p, c :: cs, i + 1 => pos (p + c.size) cs i
theorem pos_zero (p : Nat) (cs : List ByteArray) : pos p cs 0 = p := by cases cs <;> rfl
theorem ent_dir : ∀ (cs : List ByteArray) (p i : Nat) (X : List UInt8), i ≤ cs.length → p + (cat cs).length < 65536 → ent (X ++ dir p cs) i = pos p cs i
 | [], p, i, X, h, hp => by
  obtain rfl : i = 0 := by simpa using h
  rw [dir, ent_last _ _ (by omega), pos_zero]
 | c :: cs, p, i, X, h, hp => by
  rw [cat_cons, List.length_append, L_length] at hp
  rw [dir, ← List.append_assoc]
  cases i with
  | zero => rw [ent_last _ _ (by omega), pos_zero]
  | succ i =>
   rw [ent_succ _ _ _ (by rw [List.length_append, dir_length]; simp at h; omega), ent_dir cs (p + c.size) i X (by simpa using h) (by omega)]
   rfl
def cuts (b : ByteArray) : Nat → Nat → List ByteArray → Option (List ByteArray)
 | 0, _, acc => some acc
 | d + 1, i, acc => if ent (L b) i > ent (L b) (i + 1) then none else if ent (L b) (i + 1) > b.size then none else cuts b d (i + 1) (acc ++ [b.extract (ent (L b) i) (ent (L b) (i + 1))])
def unpacked (b : ByteArray) (f m : Int) : List ByteArray × Int :=
 if f < 0 ∨ m < 0 ∨ (b.size : Int) > 65535 then ([], 4) else if f > (b.size : Int) ∨ m > (b.size : Int) / 2 - 1 then ([], 3) else
  match cuts b m.toNat 0 [] with
  | none => ([], 3)
  | some cs => if packed (b.size : Int) (b.extract 0 f.toNat) cs = (b, 0) then (cs, 0) else ([], 3)
theorem cuts_length (b : ByteArray) : ∀ (d i : Nat) (acc cs : List ByteArray), cuts b d i acc = some cs → cs.length = acc.length + d
 | 0, i, acc, cs, h => by
  injection h with h
  rw [h]
  rfl
 | d + 1, i, acc, cs, h => by
  unfold cuts at h
  split at h
  ·
   cases h
  ·
   split at h
   ·
    cases h
   ·
    rw [cuts_length b d _ _ _ h]
    simp
    omega
theorem cuts_size (b : ByteArray) : ∀ (d i : Nat) (acc cs : List ByteArray), (∀ c ∈ acc, c.size ≤ b.size) → cuts b d i acc = some cs → ∀ c ∈ cs, c.size ≤ b.size
 | 0, i, acc, cs, ha, h => by
  injection h with h
  rw [← h]
  exact ha
 | d + 1, i, acc, cs, ha, h => by
  unfold cuts at h
  split at h
  ·
   cases h
  ·
   split at h
   ·
    cases h
   ·
    refine cuts_size b d _ _ _ ?_ h
    intro c hc
    rcases List.mem_append.1 hc with hc | hc
    ·
     exact ha c hc
    ·
     obtain rfl := List.mem_singleton.1 hc
     rw [size_extract]
     omega
theorem cuts_of (b : ByteArray) : ∀ (cs : List ByteArray) (i : Nat) (acc : List ByteArray) (A R : List UInt8), L b = A ++ cat cs ++ R → (∀ j, j ≤ cs.length → ent (L b) (i + j) = pos A.length cs j) → cuts b cs.length i acc = some (acc ++ cs)
 | [], i, acc, A, R, h, hj => by
  rw [List.append_nil]
  rfl
 | c :: cs, i, acc, A, R, h, hj => by
  have h0 : ent (L b) i = A.length := by rw [← Nat.add_zero i, hj 0 (Nat.zero_le _), pos_zero]
  have h1 : ent (L b) (i + 1) = A.length + c.size := by rw [hj 1 (by simp)]; exact pos_zero _ cs
  have hs : b.size = A.length + (c.size + (cat cs).length) + R.length := by
   rw [← L_length b, h, cat_cons]
   simp only [List.length_append, L_length]
  have hc : b.extract (ent (L b) i) (ent (L b) (i + 1)) = c := by
   refine L_inj ?_
   rw [L_extract, h0, h1, h, cat_cons]
   have := L_length c
   rw [show A ++ (L c ++ cat cs) ++ R = A ++ (L c ++ (cat cs ++ R)) by simp only [List.append_assoc], List.drop_left, show A.length + c.size - A.length = (L c).length by omega, List.take_left]
  rw [List.length_cons]
  unfold cuts
  rw [if_neg (by omega), if_neg (by omega), hc, cuts_of b cs (i + 1) (acc ++ [c]) (A ++ L c) R (by rw [h, cat_cons]; simp only [List.append_assoc]) (fun j hl => by
   rw [show i + 1 + j = i + (j + 1) by omega, hj (j + 1) (by simpa using hl), List.length_append, L_length]
   rfl), List.append_assoc]
  rfl
theorem cuts_body {room : Nat} {f : ByteArray} {cs : List ByteArray} (h : need f cs ≤ room) (hr : room ≤ 65535) : cuts (body room f cs) cs.length 0 [] = some cs := by
 have hn : need f cs = f.size + (cat cs).length + 2 * (cs.length + 1) := rfl
 have := cuts_of (body room f cs) cs 0 [] (L f) (List.replicate (room - need f cs) 0 ++ dir f.size cs) (by rw [body_L]; simp only [List.append_assoc]) (fun j hj => by
  rw [Nat.zero_add, body_L, ent_dir cs f.size j _ hj (by omega), L_length])
 rw [this, List.nil_append]
theorem body_fixed {room : Nat} {f : ByteArray} {cs : List ByteArray} : (body room f cs).extract 0 f.size = f := by
 refine L_inj ?_
 rw [L_to, body_L, ← L_length f]
 simp only [List.append_assoc]
 rw [List.take_left]
theorem unpacked_body {room : Nat} {f : ByteArray} {cs : List ByteArray} (h : need f cs ≤ room) (hr : room ≤ 65535) : unpacked (body room f cs) (f.size : Int) (cs.length : Int) = (cs, 0) := by
 have hn : need f cs = f.size + (cat cs).length + 2 * (cs.length + 1) := rfl
 have hs := body_size h
 unfold unpacked
 rw [hs, if_neg (by omega), if_neg (by omega), Int.toNat_natCast, Int.toNat_natCast, cuts_body h hr, body_fixed]
 show (if _ then _ else _) = _
 rw [if_pos]
 unfold packed
 rw [if_neg (by omega), if_neg (by omega), Int.toNat_natCast]
end Go.Proofs.YtafebmhmcdnhkaaGreatSlot
namespace Go.Proofs.YtafebmhmcdnhkaaGreatSum
open Go.RowKit Go.Proofs.YtafebmhmcdnhkaaGreatW.PrintWords Go.Proofs.YtafebmhmcdnhkaaGreatW.PrintMore Go.Proofs.YtafebmhmcdnhkaaGreatEv
def sh (r : Nat) : Nat := if r % 2 = 1 then (r / 2) ^^^ 2197175160 else r / 2
def shN : Nat → Nat → Nat
 | 0, r => r
 | n + 1, r => shN n (sh r)
theorem xor_half (a b : Nat) : (a ^^^ b) / 2 = (a / 2) ^^^ (b / 2) := Nat.xor_div_two
theorem xor_par (a b : Nat) : (a ^^^ b) % 2 = (a + b) % 2 := by
 have h : (a ^^^ b) % 2 ^ 1 = (a % 2 ^ 1) ^^^ (b % 2 ^ 1) := Nat.xor_mod_two_pow
 rw [Nat.pow_one] at h
 rw [h]
 rcases Nat.mod_two_eq_zero_or_one a with ha | ha <;> rcases Nat.mod_two_eq_zero_or_one b with hb | hb <;> rw [ha, hb]
 ·
  show 0 = _; omega
 ·
  show 1 = _; omega
 ·
  show 1 = _; omega
 ·
  show 0 = _; omega
theorem xor_swap (a b c : Nat) : (a ^^^ c) ^^^ (b ^^^ c) = a ^^^ b := by
 rw [Nat.xor_assoc, ← Nat.xor_assoc c b c, Nat.xor_comm c b, Nat.xor_assoc b c c, Nat.xor_self, Nat.xor_zero]
theorem sh_xor (a b : Nat) : sh (a ^^^ b) = sh a ^^^ sh b := by
 unfold sh
 have hp := xor_par a b
 rw [xor_half]
 rcases Nat.mod_two_eq_zero_or_one a with ha | ha <;> rcases Nat.mod_two_eq_zero_or_one b with hb | hb
 ·
  rw [if_neg (by omega), if_neg (by omega), if_neg (by omega)]
 ·
  rw [if_pos (by omega), if_neg (by omega), if_pos (by omega), Nat.xor_assoc]
 ·
  rw [if_pos (by omega), if_pos (by omega), if_neg (by omega), Nat.xor_assoc, Nat.xor_assoc, Nat.xor_comm (b / 2)]
 ·
  rw [if_neg (by omega), if_pos (by omega), if_pos (by omega), xor_swap]
theorem shN_xor : ∀ (n a b : Nat), shN n (a ^^^ b) = shN n a ^^^ shN n b
 | 0, a, b => rfl
 | n + 1, a, b => by
  show shN n (sh (a ^^^ b)) = _
  rw [sh_xor, shN_xor n]
  rfl
theorem sh_lt {r : Nat} (h : r < 4294967296) : sh r < 4294967296 := by
 unfold sh
 split
 ·
  exact Nat.xor_lt_two_pow (n := 32) (by omega) (by omega)
 ·
  omega
theorem shN_lt : ∀ (n : Nat) {r : Nat}, r < 4294967296 → shN n r < 4294967296
 | 0, r, h => h
 | n + 1, r, h => shN_lt n (sh_lt h)
theorem sh_even (x : Nat) : sh (2 * x) = x := by
 unfold sh
 rw [if_neg (by omega)]
 omega
theorem shN_256 (h : Nat) : shN 8 (256 * h) = h := by
 show sh (sh (sh (sh (sh (sh (sh (sh (256 * h)))))))) = h
 rw [show 256 * h = 2 * (2 * (2 * (2 * (2 * (2 * (2 * (2 * h))))))) by omega]
 simp only [sh_even]
theorem split_256 (r : Nat) : r = (r % 256) ^^^ (256 * (r / 256)) := by
 have h1 : ((r % 256) ^^^ (256 * (r / 256))) % 2 ^ 8 = r % 256 := by
  rw [Nat.xor_mod_two_pow]
  simp
 have h2 : ((r % 256) ^^^ (256 * (r / 256))) / 2 ^ 8 = r / 256 := by
  rw [Nat.xor_div_two_pow]
  simp
 have := Nat.div_add_mod ((r % 256) ^^^ (256 * (r / 256))) (2 ^ 8)
 rw [h1, h2] at this
 omega
theorem turn_eq (r b : Nat) : shN 8 (r ^^^ b) = shN 8 ((r % 256) ^^^ b) ^^^ (r / 256) := by
 conv => lhs; rw [split_256 r]
 rw [Nat.xor_assoc, Nat.xor_comm (256 * _) b, ← Nat.xor_assoc, shN_xor, shN_256]
def reg (r : Nat) (l : List UInt8) : Nat := l.foldl (fun r b => shN 8 (r ^^^ b.toNat)) r
def crc (l : List UInt8) : Nat := 4294967295 - reg 4294967295 l
theorem u8_lt (b : UInt8) : b.toNat < 256 := by have := b.toNat_lt; omega
theorem reg_lt : ∀ (l : List UInt8) (r : Nat), r < 4294967296 → reg r l < 4294967296
 | [], r, h => h
 | b :: l, r, h => reg_lt l _ (shN_lt 8 (Nat.xor_lt_two_pow (n := 32) (by omega) (by have := u8_lt b; omega)))
theorem not_eq (x : Nat) (h : x < 4294967296) : 4294967295 ^^^ x = 4294967295 - x := by
 apply Nat.eq_of_testBit_eq
 intro i
 have h1 := Nat.testBit_two_pow_sub_succ (n := 32) (x := x) (by omega) i
 rw [Nat.testBit_xor, show (4294967295 : Nat) - x = 2 ^ 32 - (x + 1) by omega, h1, show (4294967295 : Nat) = 2 ^ 32 - 1 from rfl, Nat.testBit_two_pow_sub_one]
 by_cases hi : i < 32
 ·
  simp [hi]
 ·
  have : x.testBit i = false := Nat.testBit_lt_two_pow (Nat.lt_of_lt_of_le (by omega : x < 2 ^ 32) (Nat.pow_le_pow_right (by omega) (by omega)))
  simp [hi, this]
end Go.Proofs.YtafebmhmcdnhkaaGreatSum
namespace Go.Proofs.YtafebmhmcdnhkaaGreatHead
open Go.RowKit Go.Proofs.YtafebmhmcdnhkaaGreatW.PrintWords Go.Proofs.YtafebmhmcdnhkaaGreatW.PrintMore Go.Proofs.YtafebmhmcdnhkaaGreatEv Go.Proofs.YtafebmhmcdnhkaaGreatSum
theorem L_mk (l : List UInt8) : L ⟨l.toArray⟩ = l := by simp
theorem size_mk (l : List UInt8) : (⟨l.toArray⟩ : ByteArray).size = l.length := by rw [← L_length, L_mk]
def le4 (n : Nat) : List UInt8 := [UInt8.ofNat n, UInt8.ofNat (n / 256), UInt8.ofNat (n / 65536), UInt8.ofNat (n / 16777216)]
def rd4 (l : List UInt8) : Nat := (l.getD 0 0).toNat + 256 * (l.getD 1 0).toNat + 65536 * (l.getD 2 0).toNat + 16777216 * (l.getD 3 0).toNat
theorem rd4_le4 (n : Nat) (h : n < 4294967296) (x : List UInt8) : rd4 (le4 n ++ x) = n := by
 simp [rd4, le4]
 omega
structure Hd where
 k : Nat
 l : Nat
 c : Nat
 r : Nat
 s : Nat
deriving DecidableEq
theorem le4_length (n : Nat) : (le4 n).length = 4 := rfl
def Hd.ok (h : Hd) : Prop := 1 ≤ h.k ∧ h.k < 5 ∧ h.l < 256 ∧ h.c < 65536 ∧ h.r < 4096 ∧ h.s < 4096
def front (h : Hd) : List UInt8 := [UInt8.ofNat h.k, UInt8.ofNat h.l, UInt8.ofNat h.c, UInt8.ofNat (h.c / 256)] ++ le4 h.r ++ le4 h.s
def rest (b : List UInt8) (p : Nat) : List UInt8 := b ++ List.replicate (p - 16 - b.length) 0
def sum (h : Hd) (b : List UInt8) (p : Nat) : Nat := crc (front h ++ [0, 0, 0, 0] ++ rest b p)
def page (h : Hd) (b : List UInt8) (p : Nat) : List UInt8 := front h ++ le4 (sum h b p) ++ rest b p
def pageB (h : Hd) (b : List UInt8) (p : Nat) : ByteArray := ⟨(page h b p).toArray⟩
theorem front_length (h : Hd) : (front h).length = 12 := rfl
theorem rest_length {b : List UInt8} {p : Nat} (h : b.length + 16 ≤ p) : (rest b p).length = p - 16 := by
 simp [rest]
 omega
theorem page_length {h : Hd} {b : List UInt8} {p : Nat} (hb : b.length + 16 ≤ p) : (page h b p).length = p := by
 simp only [page, List.length_append, front_length, le4_length, rest_length hb]
 omega
theorem pageB_L (h : Hd) (b : List UInt8) (p : Nat) : L (pageB h b p) = page h b p := L_mk _
theorem pageB_size {h : Hd} {b : List UInt8} {p : Nat} (hb : b.length + 16 ≤ p) : (pageB h b p).size = p := by rw [← L_length, pageB_L, page_length hb]
def got (l : List UInt8) : Hd := ⟨(l.getD 0 0).toNat, (l.getD 1 0).toNat, (l.getD 2 0).toNat + 256 * (l.getD 3 0).toNat, rd4 (l.drop 4), rd4 (l.drop 8)⟩
theorem got_front {h : Hd} (ok : h.ok) (x : List UInt8) : got (front h ++ x) = h := by
 obtain ⟨h1, h2, h3, h4, h5, h6⟩ := ok
 have e1 : (front h ++ x).drop 4 = le4 h.r ++ (le4 h.s ++ x) := by simp [front]
 have e2 : (front h ++ x).drop 8 = le4 h.s ++ x := by simp [front, le4]
 unfold got
 rw [e1, e2, rd4_le4 _ (by omega), rd4_le4 _ (by omega)]
 cases h
 simp [front] at *
 omega
theorem page_drop (h : Hd) (b : List UInt8) (p : Nat) : (page h b p).drop 16 = rest b p := by
 have : (front h ++ le4 (sum h b p)).length = 16 := rfl
 unfold page
 rw [List.drop_append, this]
 simp [this]
theorem got_page {h : Hd} (ok : h.ok) (b : List UInt8) (p : Nat) : got (page h b p) = h := by
 unfold page
 rw [List.append_assoc]
 exact got_front ok _
theorem rest_zeros (b : List UInt8) (n p : Nat) (h : b.length + n + 16 ≤ p) : rest (b ++ List.replicate n 0) p = rest b p := by
 unfold rest
 rw [List.append_assoc, List.length_append, List.length_replicate, List.replicate_append_replicate]
 congr 2
 omega
theorem rest_rest {b : List UInt8} {p : Nat} (h : b.length + 16 ≤ p) : rest (rest b p) p = rest b p := rest_zeros b (p - 16 - b.length) p (by omega)
theorem page_of_rest {h : Hd} {b c : List UInt8} {p : Nat} (e : rest b p = rest c p) : page h b p = page h c p := by
 unfold page sum
 rw [e]
end Go.Proofs.YtafebmhmcdnhkaaGreatHead
namespace Go.Proofs.YtafebmhmcdnhkaaGreat.Spec
open Go.RowKit Go.Proofs.YtafebmhmcdnhkaaGreatW.PrintWords Go.Proofs.YtafebmhmcdnhkaaGreatW.PrintLast Go.Proofs.YtafebmhmcdnhkaaGreatW.PrintMore Go.Proofs.YtafebmhmcdnhkaaGreatEv Go.Proofs.YtafebmhmcdnhkaaGreatMath Go.Proofs.YtafebmhmcdnhkaaGreat.P
theorem shared_loop (a b : ByteArray) (ha : a.size ≤ 140737488351232) (hb : b.size ≤ 140737488351232) : ∀ (d i : Nat), i ≤ a.size → i ≤ b.size → min a.size b.size - i = d → (∀ j, j < i → (L a)[j]? = (L b)[j]?) →
  Ev (fun k => sep_shared_byte.l0 k (bytesOf a) (bytesOf b) (i : Int)) (cp (L a) (L b) : Int) := by
 intro d
 induction d with
 | zero =>
  intro i h1 h2 hd hj
  refine ev_step ?_
  simp only [sep_shared_byte.l0, bytesOf_length, mn_eq]
  refine ev_neg (by omega) (ev_some' ?_)
  rw [cp_of_get i (L a) (L b) (by rw [L_length]; exact h1) (by rw [L_length]; exact h2) hj (by rw [L_length, L_length]; omega)]
 | succ d ih =>
  intro i h1 h2 hd hj
  have hla : i < (L a).length := by rw [L_length]; omega
  have hlb : i < (L b).length := by rw [L_length]; omega
  refine ev_step ?_
  simp only [sep_shared_byte.l0, bytesOf_length, mn_eq, rd_bytesOf]
  refine ev_pos (by omega) (ev_pos (by omega) (ev_pos (by omega) (ev_pos (by omega) ?_)))
  by_cases he : (L a)[i]? = (L b)[i]?
  ·
   refine ev_pos ((bt_eq_iff a b i i hla hlb).2 he) ?_
   rw [w64_succ (by omega)]
   exact ih (i + 1) (by omega) (by omega) (by omega) (fun j hj' => by
    rcases Nat.lt_or_ge j i with h | h
    ·
     exact hj j h
    ·
     obtain rfl : j = i := by omega
     exact he)
  ·
   refine ev_neg (fun h => he ((bt_eq_iff a b i i hla hlb).1 h)) (ev_some' ?_)
   rw [cp_of_get i (L a) (L b) (by omega) (by omega) hj (.inr (.inr he))]
theorem common_ev (a b : ByteArray) (ha : a.size ≤ 140737488351232) (hb : b.size ≤ 140737488351232) : Ev (fun k => sep_Common.f k a b) (cp (L a) (L b) : Int) := by
 unfold sep_Common.f sep_shared_byte.f
 exact ev_pos (by omega) (ev_pos (by omega) (shared_loop a b ha hb _ 0 (Nat.zero_le _) (Nat.zero_le _) rfl (fun j hj => absurd hj (Nat.not_lt_zero _))))
theorem least_loop (l : List Int) (hl : l.length ≤ 140737488351232) : ∀ (d i : Nat) (n : Int), i ≤ l.length → l.length - i = d → Ev (fun k => sep_least.l0 k n l (l.length : Int) (i : Int)) ((l.drop i).foldl min n) := by
 intro d
 induction d with
 | zero =>
  intro i n h1 hd
  refine ev_step ?_
  simp only [sep_least.l0]
  refine ev_neg (by omega) (ev_some' ?_)
  rw [List.drop_of_length_le (by omega)]
  rfl
 | succ d ih =>
  intro i n h1 hd
  have hi : i < l.length := by omega
  refine ev_step ?_
  simp only [sep_least.l0]
  refine ev_pos (by omega) (ev_pos (by omega) (ev_pos (by omega) ?_))
  rw [w64_succ (by omega), rd_nat l i hi, mn_eq]
  refine ev_eq (ih (i + 1) _ (by omega) (by omega)) ?_
  rw [List.drop_eq_getElem_cons hi, List.foldl_cons]
theorem least_ev (n : Int) (l : List Int) (hl : l.length ≤ 140737488351232) : Ev (fun k => sep_least.f k n l) (l.foldl min n) := by
 unfold sep_least.f
 exact least_loop l hl _ 0 n (Nat.zero_le _) rfl
theorem foldl_min_cast : ∀ (l : List Nat) (n : Nat), (l.map (fun x : Nat => (x : Int))).foldl min (n : Int) = ((l.foldl min n : Nat) : Int)
 | [], n => rfl
 | x :: l, n => by
  rw [List.map_cons, List.foldl_cons, List.foldl_cons, ← foldl_min_cast l (min n x)]
  congr 1
  omega
theorem foldl_cp (a : List UInt8) : ∀ (r : List (List UInt8)) (n : Nat), n ≤ a.length → (r.map (cp a)).foldl min n = min n (spanFrom a r)
 | [], n, h => by simp only [List.map_nil, List.foldl_nil, spanFrom]; omega
 | s :: r, n, h => by
  rw [List.map_cons, List.foldl_cons, foldl_cp a r _ (by omega)]
  simp only [spanFrom]
  omega
theorem span_loop (x : ByteArray) (r : List ByteArray) (hx : x.size ≤ 140737488351232) (hr : ∀ s ∈ r, s.size ≤ 140737488351232) (hl : r.length ≤ 8796093022207) : ∀ (d i : Nat) (acc : List Nat), i ≤ r.length → acc.length = i → r.length - i = d →
  Ev (fun k => sep_Span.l0 k (x :: r) (acc.map (fun n : Nat => (n : Int))) r (r.length : Int) (i : Int)) (((acc ++ (r.drop i).map (fun s => cp (L x) (L s))).foldl min x.size : Nat) : Int) := by
 intro d
 induction d with
 | zero =>
  intro i acc h1 ha hd
  refine ev_step ?_
  simp only [sep_Span.l0, rdOf_zero]
  refine ev_neg (by omega) (ev_pos (by simp <;> omega) (ev_bind (least_ev _ _ (by simp <;> omega)) (ev_some' ?_)))
  rw [foldl_min_cast, List.drop_of_length_le (by omega)]
  simp
 | succ d ih =>
  intro i acc h1 ha hd
  have hi : i < r.length := by omega
  refine ev_step ?_
  simp only [sep_Span.l0, rdOf_zero]
  refine ev_pos (by omega) (ev_pos (by omega) (ev_pos (by omega) (ev_pos (by simp <;> omega) ?_)))
  rw [rdOf_nat _ r i hi]
  refine ev_bind (common_ev x r[i] hx (hr _ (List.getElem_mem hi))) (ev_pos (by simp <;> omega) ?_)
  rw [w64_succ (by omega)]
  have := ih (i + 1) (acc ++ [cp (L x) (L r[i])]) (by omega) (by simp <;> omega) (by omega)
  rw [List.map_append] at this
  refine ev_eq this ?_
  rw [List.drop_eq_getElem_cons hi, List.map_cons, List.append_assoc]
  rfl
theorem span_ev (l : List ByteArray) (hs : ∀ s ∈ l, s.size ≤ 140737488351232) (hl : l.length ≤ 8796093022207) : Ev (fun k => sep_Span.f k l) (span (l.map L) : Int) := by
 unfold sep_Span.f
 cases l with
 | nil => exact ev_pos rfl (ev_some' rfl)
 | cons x r =>
  refine ev_neg (by simp <;> omega) (ev_pos (by simp <;> omega) ?_)
  have h := span_loop x r (hs x (List.mem_cons_self)) (fun s h => hs s (List.mem_cons_of_mem _ h)) (by simp at hl; omega) _ 0 [] (Nat.zero_le _) rfl rfl
  refine ev_eq h ?_
  have e : (r.map fun s => cp (L x) (L s)) = (r.map L).map (cp (L x)) := by rw [List.map_map]; rfl
  rw [List.nil_append, List.drop_zero, ← L_length, e, foldl_cp (L x) (r.map L) _ (Nat.le_refl _)]
  have := spanFrom_le (L x) (r.map L)
  simp only [List.map_cons, span]
  omega
theorem strip_loop (x : List ByteArray) (n : Nat) (hl : x.length ≤ 8796093022207) (hn : ∀ s ∈ x, n ≤ s.size) : ∀ (d i : Nat) (acc : List ByteArray), i ≤ x.length → acc.length = i → x.length - i = d →
  Ev (fun k => sep_Strip.l0 k x (n : Int) acc x (x.length : Int) (i : Int)) ((match x with | [] => (⟨#[]⟩ : ByteArray) | s :: _ => s.extract 0 n), acc ++ (x.drop i).map (fun s => s.extract n s.size)) := by
 intro d
 induction d with
 | zero =>
  intro i acc h1 ha hd
  refine ev_step ?_
  simp only [sep_Strip.l0]
  refine ev_neg (by omega) ?_
  rw [List.drop_of_length_le (by omega), List.map_nil, List.append_nil]
  cases x with
  | nil => exact ev_pos rfl ev_some
  | cons s r =>
   have := hn s (List.mem_cons_self)
   refine ev_neg (by simp <;> omega) (ev_pos (by simp <;> omega) (ev_pos (by omega) ?_))
   rw [rdOf_zero]
   exact ev_pos (by omega) (ev_some' (by simp))
 | succ d ih =>
  intro i acc h1 ha hd
  have hi : i < x.length := by omega
  have := hn x[i] (List.getElem_mem hi)
  refine ev_step ?_
  simp only [sep_Strip.l0]
  rw [rdOf_nat _ x i hi]
  refine ev_pos (by omega) (ev_pos (by omega) (ev_pos (by omega) (ev_pos (by omega) (ev_pos (by omega) (ev_pos (by omega) ?_)))))
  rw [w64_succ (by omega)]
  refine ev_eq (ih (i + 1) _ (by omega) (by simp <;> omega) (by omega)) ?_
  rw [List.drop_eq_getElem_cons hi, List.map_cons, List.append_assoc, Int.toNat_natCast]
  rfl
theorem span_le_size {l : List ByteArray} {s : ByteArray} (h : s ∈ l) : span (l.map L) ≤ s.size := by
 cases l with
 | nil => cases h
 | cons x r =>
  have := (span_all (l := (x :: r).map L) (Nat.le_refl _) (a := L x) rfl (L s) (List.mem_map_of_mem h)).1
  rwa [L_length] at this
def stripped (l : List ByteArray) : ByteArray × List ByteArray :=
 ((match l with | [] => (⟨#[]⟩ : ByteArray) | s :: _ => s.extract 0 (span (l.map L))), l.map (fun s => s.extract (span (l.map L)) s.size))
theorem strip_ev (l : List ByteArray) (hs : ∀ s ∈ l, s.size ≤ 140737488351232) (hl : l.length ≤ 8796093022207) : Ev (fun k => sep_Strip.f k l) (stripped l) := by
 unfold sep_Strip.f
 refine ev_bind (span_ev l hs hl) ?_
 refine ev_eq (strip_loop l (span (l.map L)) hl (fun s h => span_le_size h) _ 0 [] (Nat.zero_le _) rfl rfl) ?_
 rw [List.drop_zero, List.nil_append]
 cases l <;> rfl
open Go.Proofs.YtafebmhmcdnhkaaGreatSlot
theorem join_flat (xs : List (List UInt8)) : Lib.join xs [] = xs.flatten := by
 cases xs with
 | nil => rfl
 | cons x r =>
  rw [Lib.join_cons]
  simp [Lib.joinTail]
theorem size_eq (f : ByteArray) (cs : List ByteArray) (h : need f cs ≤ 140737488300000) : slot_Size.f f cs = some (need f cs : Int) := by
 have hn : need f cs = f.size + (cat cs).length + 2 * (cs.length + 1) := rfl
 have e : Lib.join (cs.map (fun x => x.data.toList)) (⟨#[]⟩ : ByteArray).data.toList = cat cs := join_flat _
 unfold slot_Size.f strings_Join.f
 have e2 : (⟨(cat cs).toArray⟩ : ByteArray).size = (cat cs).length := size_mk _
 rw [e, if_pos (by omega), if_pos (by omega), Option.bind_some, e2]
 refine congrArg some ?_
 rw [w64 (x := (cs.length : Int) + 1) (by omega) (by omega), w64 (x := 2 * _) (by omega) (by omega), w64 (x := (f.size : Int) + _) (by omega) (by omega), w64 (by omega) (by omega)]
 omega
theorem ofNat_mod (n : Nat) : UInt8.ofNat (n % 256) = UInt8.ofNat n := by
 rw [← UInt8.toNat_inj]
 simp
def placeB (n : Nat) : ByteArray := ⟨(place n).toArray⟩
theorem placeB_L (n : Nat) : L (placeB n) = place n := L_mk _
theorem placeB_size (n : Nat) : (placeB n).size = 2 := size_mk _
theorem place_eq (n : Nat) : slot_place.f (n : Int) = some (placeB n) := by
 unfold slot_place.f
 refine congrArg some (L_inj ?_)
 rw [placeB_L]
 show (strOfNums _).data.toList = _
 rw [strOfNums_data]
 simp only [List.map_cons, List.map_nil, place]
 rw [show ((n : Int) % 256).toNat = n % 256 by omega, show ((n : Int) / 256 % 256).toNat = (n / 256) % 256 by omega, ofNat_mod, ofNat_mod]
def zerosB (n : Nat) : ByteArray := ⟨(List.replicate n (0 : UInt8)).toArray⟩
theorem zerosB_L (n : Nat) : L (zerosB n) = List.replicate n 0 := L_mk _
theorem zerosB_size (n : Nat) : (zerosB n).size = n := by unfold zerosB; rw [size_mk, List.length_replicate]
theorem repeat_eq (n : Nat) (h : n ≤ 140737488300000) : strings_Repeat.f (⟨#[0]⟩ : ByteArray) (n : Int) = some (zerosB n) := by
 unfold strings_Repeat.f
 have e : (⟨#[0]⟩ : ByteArray).size = 1 := rfl
 rw [if_pos (by omega), if_pos (by omega), if_pos (by rw [e]; omega), Int.toNat_natCast]
 refine congrArg some (L_inj ?_)
 rw [zerosB_L, L_mk]
 have := Lib.repeatL_replicate 0 1 n
 rw [Nat.mul_one] at this
 exact this
def fill (room : Nat) (a b : ByteArray) (cs : List ByteArray) : ByteArray := ⟨(L a ++ cat cs ++ List.replicate (room - (a.size + (cat cs).length + 2 * (cs.length + 1) + b.size)) 0 ++ (dir a.size cs ++ L b)).toArray⟩
theorem fill_nil (room : Nat) (a b : ByteArray) (h : a.size + 2 + b.size ≤ room) : (a ++ zerosB (room - (a.size + 2 + b.size))) ++ (placeB a.size ++ b) = fill room a b [] := by
 refine L_inj ?_
 unfold fill
 rw [L_mk]
 simp only [L_append, zerosB_L, placeB_L, cat_nil, dir, List.append_nil, List.length_nil]
theorem fill_cons (room : Nat) (a b c : ByteArray) (cs : List ByteArray) : fill room (a ++ c) (placeB a.size ++ b) cs = fill room a b (c :: cs) := by
 refine L_inj ?_
 unfold fill
 rw [L_mk, L_mk]
 simp only [L_append, placeB_L, cat_cons, dir, ByteArray.size_append, placeB_size, List.append_assoc, List.length_append, L_length, List.length_cons]
 congr 5
 omega
theorem fill_all (room : Nat) (f : ByteArray) (cs : List ByteArray) : fill room f ⟨#[]⟩ cs = body room f cs := by
 refine L_inj ?_
 unfold fill
 rw [body_L, L_mk]
 have e : (⟨#[]⟩ : ByteArray).size = 0 := rfl
 have e' : L (⟨#[]⟩ : ByteArray) = [] := rfl
 have hn : need f cs = f.size + (cat cs).length + 2 * (cs.length + 1) := rfl
 rw [e, e', Nat.add_zero, List.append_nil, hn]
theorem pack_loop (room : Nat) (hr : room ≤ 65535) (cs : List ByteArray) : ∀ (d i : Nat) (a b : ByteArray), i ≤ cs.length → cs.length - i = d → a.size + (cat (cs.drop i)).length + 2 * (d + 1) + b.size ≤ room → cs.length ≤ 65535 →
  Ev (fun k => slot_Pack.l0 k (room : Int) a b cs (cs.length : Int) (i : Int)) (fill room a b (cs.drop i), 0) := by
 intro d
 induction d with
 | zero =>
  intro i a b h1 hd hs hl
  refine ev_step ?_
  simp only [slot_Pack.l0]
  rw [List.drop_of_length_le (by omega), cat_nil] at hs
  simp only [List.length_nil, Nat.add_zero] at hs
  have ep := placeB_size a.size
  have es : (placeB a.size ++ b).size = 2 + b.size := by rw [ByteArray.size_append, ep]
  refine ev_neg (by omega) (ev_bind_now (place_eq a.size) (ev_pos (by omega) ?_))
  rw [es, w64 (x := (room : Int) - _) (by omega) (by omega), w64 (by omega) (by omega), show (room : Int) - (a.size : Int) - ((2 + b.size : Nat) : Int) = ((room - (a.size + 2 + b.size) : Nat) : Int) by omega]
  have ez := zerosB_size (room - (a.size + 2 + b.size))
  have eaz : (a ++ zerosB (room - (a.size + 2 + b.size))).size = room - 2 - b.size := by rw [ByteArray.size_append, ez]; omega
  refine ev_bind_now (repeat_eq _ (by omega)) (ev_pos (by omega) (ev_pos (by omega) (ev_some' ?_)))
  rw [List.drop_of_length_le (by omega), fill_nil room a b (by omega)]
 | succ d ih =>
  intro i a b h1 hd hs hl
  have hi : i < cs.length := by omega
  rw [List.drop_eq_getElem_cons hi, cat_cons, List.length_append, L_length] at hs
  have ep := placeB_size a.size
  refine ev_step ?_
  simp only [slot_Pack.l0]
  rw [rdOf_nat _ cs i hi]
  refine ev_pos (by omega) (ev_pos (by omega) (ev_pos (by omega) (ev_bind_now (place_eq a.size) (ev_pos (by omega) (ev_pos (by omega) ?_)))))
  rw [w64_succ (by omega), List.drop_eq_getElem_cons hi, ← fill_cons]
  exact ih (i + 1) _ _ (by omega) (by omega) (by rw [ByteArray.size_append, ByteArray.size_append, ep]; omega) hl
theorem pack_j (room : Int) (f : ByteArray) (cs : List ByteArray) (h : need f cs ≤ 140737488300000) (t : Bool) (ht : t = decide (room < 0 ∨ room > 65535)) : Ev (fun k => slot_Pack.j0 k room f cs t) (packed room f cs) := by
 have hn : need f cs = f.size + (cat cs).length + 2 * (cs.length + 1) := rfl
 refine ev_step ?_
 simp only [slot_Pack.j0]
 unfold packed
 by_cases hr : room < 0 ∨ room > 65535
 ·
  rw [if_pos hr]
  exact ev_pos (by rw [ht]; exact decide_eq_true hr) ev_some
 ·
  rw [if_neg hr]
  refine ev_neg (by rw [ht]; exact fun h => hr (of_decide_eq_true h)) (ev_bind_now (size_eq f cs h) ?_)
  by_cases hx : (need f cs : Int) > room
  ·
   rw [if_pos hx]
   exact ev_pos hx ev_some
  ·
   rw [if_neg hx]
   obtain ⟨n, rfl⟩ := Int.eq_ofNat_of_zero_le (show 0 ≤ room by omega)
   refine ev_neg hx ?_
   have := pack_loop n (by omega) cs _ 0 f ⟨#[]⟩ (Nat.zero_le _) rfl (by rw [List.drop_zero]; show _ + 0 ≤ n; omega) (by omega)
   rw [List.drop_zero, fill_all] at this
   exact this
theorem pack_ev (room : Int) (f : ByteArray) (cs : List ByteArray) (h : need f cs ≤ 140737488300000) : Ev (fun k => slot_Pack.f k room f cs) (packed room f cs) := by
 unfold slot_Pack.f
 by_cases hr : room < 0
 ·
  exact ev_pos hr (pack_j room f cs h _ (Eq.symm (decide_eq_true (.inl hr))))
 ·
  refine ev_neg hr (pack_j room f cs h _ (decide_eq_decide.2 ?_))
  omega
theorem packed_ok {room : Nat} {f : ByteArray} {cs : List ByteArray} (h : need f cs ≤ room) (hr : room ≤ 65535) : packed (room : Int) f cs = (body room f cs, 0) := by
 unfold packed
 rw [if_neg (by omega), if_neg (by omega), Int.toNat_natCast]
theorem packed_much {room : Nat} {f : ByteArray} {cs : List ByteArray} (h : room < need f cs) (hr : room ≤ 65535) : packed (room : Int) f cs = (⟨#[]⟩, 8) := by
 unfold packed
 rw [if_neg (by omega), if_pos (by omega)]
end Go.Proofs.YtafebmhmcdnhkaaGreat.Spec
namespace Go.Proofs.YtafebmhmcdnhkaaGreat.HSpec
open Go.RowKit Go.Proofs.YtafebmhmcdnhkaaGreatW.PrintWords Go.Proofs.YtafebmhmcdnhkaaGreatW.PrintLast Go.Proofs.YtafebmhmcdnhkaaGreatW.PrintMore Go.Proofs.YtafebmhmcdnhkaaGreatEv Go.Proofs.YtafebmhmcdnhkaaGreatSum Go.Proofs.YtafebmhmcdnhkaaGreatHead Go.Proofs.YtafebmhmcdnhkaaGreat.P
theorem sum_shift_eq (r : Nat) (h : r < 4294967296) : sum_shift (r : Int) = (sh r : Int) := by
 unfold sum_shift sh
 rw [show (1 : Int) = ((1 : Nat) : Int) from rfl, u32_and_nat r 1 h (by omega), Nat.and_one_is_mod, show (r : Int) / 2 = ((r / 2 : Nat) : Int) by omega, show (2197175160 : Int) = ((2197175160 : Nat) : Int) from rfl, u32_xor_nat _ _ (by omega) (by omega)]
 by_cases hp : r % 2 = 1
 ·
  rw [if_pos hp, if_pos (by omega)]
 ·
  rw [if_neg hp, if_neg (by omega)]
theorem sum_stepN_eq : ∀ (n r : Nat), r < 4294967296 → sum_stepN n (r : Int) = (shN n r : Int)
 | 0, r, h => rfl
 | n + 1, r, h => by
  show sum_stepN n (sum_shift (r : Int)) = _
  rw [sum_shift_eq r h, sum_stepN_eq n _ (sh_lt h)]
  rfl
theorem sum_turn_eq (r : Nat) (b : UInt8) (h : r < 4294967296) : sum_turn (r : Int) (b.toNat : Int) = (shN 8 (r ^^^ b.toNat) : Int) := by
 have hb := u8_lt b
 have hx : (r % 256) ^^^ b.toNat < 256 := Nat.xor_lt_two_pow (n := 8) (by omega) (by omega)
 unfold sum_turn
 rw [show (r : Int) % 256 = ((r % 256 : Nat) : Int) by omega, u8_xor_nat _ _ (by omega) hb, sum_stepN_eq 8 _ (by omega), show (r : Int) / 256 = ((r / 256 : Nat) : Int) by omega, u32_xor_nat _ _ (shN_lt 8 (by omega)) (by omega), ← turn_eq]
theorem sum_fold_eq : ∀ (l : List UInt8) (r : Nat), r < 4294967296 → (l.map fun b => (b.toNat : Int)).foldl sum_turn (r : Int) = (reg r l : Int)
 | [], r, h => rfl
 | b :: l, r, h => by
  rw [List.map_cons, List.foldl_cons, sum_turn_eq r b h, sum_fold_eq l _ (shN_lt 8 (Nat.xor_lt_two_pow (n := 32) (by omega) (by have := u8_lt b; omega)))]
  rfl
theorem sum_eq (s : ByteArray) (h : s.size ≤ 9223372036854775806) : sum_Table.f s = some (crc (L s) : Int) := by
 unfold sum_Table.f sum_More.f
 have e1 : Go.bits .xor .u32 IntKind.u32.max 0 = ((4294967295 : Nat) : Int) := u32_xor_nat 4294967295 0 (by omega) (by omega)
 have h2 := reg_lt (L s) 4294967295 (by omega)
 have e2 : (bytesOf s).foldl sum_turn ((4294967295 : Nat) : Int) = (reg 4294967295 (L s) : Int) := sum_fold_eq (L s) 4294967295 (by omega)
 have e3 : Go.bits .xor .u32 IntKind.u32.max (reg 4294967295 (L s) : Int) = ((4294967295 ^^^ reg 4294967295 (L s) : Nat) : Int) := u32_xor_nat 4294967295 _ (by omega) h2
 rw [if_pos h, Option.bind_some, e1, e2, e3, not_eq _ h2]
 rfl
theorem ofNat_mod (n : Nat) : UInt8.ofNat (n % 256) = UInt8.ofNat n := by
 rw [← UInt8.toNat_inj]
 simp
def fourB (n : Nat) : ByteArray := ⟨(le4 n).toArray⟩
theorem fourB_L (n : Nat) : L (fourB n) = le4 n := L_mk _
theorem fourB_size (n : Nat) : (fourB n).size = 4 := size_mk _
theorem four_eq (n : Nat) : word_Four.f (n : Int) = some (fourB n) := by
 unfold word_Four.f
 refine congrArg some (L_inj ?_)
 rw [fourB_L]
 show (strOfNums _).data.toList = _
 rw [strOfNums_data]
 simp only [List.map_cons, List.map_nil, le4]
 rw [show ((n : Int) % 256).toNat = n % 256 by omega, show ((n : Int) / 256 % 256).toNat = (n / 256) % 256 by omega, show ((n : Int) / 65536 % 256).toNat = (n / 65536) % 256 by omega, show ((n : Int) / 16777216 % 256).toNat = (n / 16777216) % 256 by omega, ofNat_mod, ofNat_mod, ofNat_mod, ofNat_mod]
def zerosB (n : Nat) : ByteArray := ⟨(List.replicate n (0 : UInt8)).toArray⟩
theorem zerosB_L (n : Nat) : L (zerosB n) = List.replicate n 0 := L_mk _
theorem zerosB_size (n : Nat) : (zerosB n).size = n := by unfold zerosB; rw [size_mk, List.length_replicate]
theorem repeat_eq (n : Nat) (h : n ≤ 140737488300000) : strings_Repeat.f (⟨#[0]⟩ : ByteArray) (n : Int) = some (zerosB n) := by
 unfold strings_Repeat.f
 have e : (⟨#[0]⟩ : ByteArray).size = 1 := rfl
 rw [if_pos (by omega), if_pos (by omega), if_pos (by rw [e]; omega), Int.toNat_natCast]
 refine congrArg some (L_inj ?_)
 rw [zerosB_L, L_mk]
 have := Lib.repeatL_replicate 0 1 n
 rw [Nat.mul_one] at this
 exact this
theorem bytes_ev (a b c d : Int) : Ev (fun k => head_bytes.f k [a, b, c, d]) (strOfNums [a % 256, b % 256, c % 256, d % 256]) := by
 refine ⟨5, fun k hk => ?_⟩
 obtain ⟨m, rfl⟩ : ∃ m, k = m + 5 := ⟨k - 5, by omega⟩
 simp [head_bytes.f, head_bytes.l0, rd, wrap64]
def Size (p : Nat) : Prop := p = 128 ∨ p = 256 ∨ p = 512 ∨ p = 1024
def hdOf (a0 a1 a2 a3 a4 : Int) : Hd := ⟨a0.toNat, a1.toNat, a2.toNat, a3.toNat, a4.toNat⟩
def sealed (a0 a1 a2 a3 a4 : Int) (b : ByteArray) (p : Int) : ByteArray × Int := if head_may.code a0 a1 a2 a3 a4 b p = 0 then (pageB (hdOf a0 a1 a2 a3 a4) (L b) p.toNat, 0) else (⟨#[]⟩, head_may.code a0 a1 a2 a3 a4 b p)
theorem sized_iff (p : Int) : head_may.sized p = true ↔ p = 128 ∨ p = 256 ∨ p = 512 ∨ p = 1024 := by simp [head_may.sized, or_assoc]
theorem right_iff (a0 a1 a2 a3 a4 : Int) : head_may.right a0 a1 a2 a3 a4 = true ↔ 1 ≤ a0 ∧ a0 < 5 ∧ 0 ≤ a1 ∧ a1 < 256 ∧ 0 ≤ a2 ∧ a2 < 65536 ∧ 0 ≤ a3 ∧ a3 < 4096 ∧ 0 ≤ a4 ∧ a4 < 4096 := by
 simp [head_may.right, and_assoc]
theorem code_zero {a0 a1 a2 a3 a4 : Int} {b : ByteArray} {p : Int} (h : head_may.code a0 a1 a2 a3 a4 b p = 0) : ∃ (x : Hd) (P : Nat), x.ok ∧ a0 = x.k ∧ a1 = x.l ∧ a2 = x.c ∧ a3 = x.r ∧ a4 = x.s ∧ p = P ∧ Size P ∧ b.size + 16 ≤ P := by
 unfold head_may.code at h
 by_cases h1 : head_may.sized p = true
 ·
  rw [if_pos h1] at h
  by_cases h2 : head_may.right a0 a1 a2 a3 a4 = true
  ·
   rw [if_pos h2] at h
   by_cases h3 : p - 16 < (b.size : Int)
   ·
    rw [if_pos h3] at h; cases h
   ·
    have h1' := (sized_iff p).1 h1
    have h2' := (right_iff _ _ _ _ _).1 h2
    refine ⟨hdOf a0 a1 a2 a3 a4, p.toNat, ?_, ?_, ?_, ?_, ?_, ?_, ?_, ?_, ?_⟩
    ·
     unfold Hd.ok hdOf; simp only; omega
    ·
     show a0 = ((a0.toNat : Nat) : Int); omega
    ·
     show a1 = ((a1.toNat : Nat) : Int); omega
    ·
     show a2 = ((a2.toNat : Nat) : Int); omega
    ·
     show a3 = ((a3.toNat : Nat) : Int); omega
    ·
     show a4 = ((a4.toNat : Nat) : Int); omega
    ·
     omega
    ·
     unfold Size; omega
    ·
     omega
  ·
   rw [if_neg h2] at h; cases h
 ·
  rw [if_neg h1] at h; cases h
theorem code_of {x : Hd} (ok : x.ok) {b : ByteArray} {P : Nat} (hP : Size P) (hb : b.size + 16 ≤ P) : head_may.code x.k x.l x.c x.r x.s b P = 0 := by
 obtain ⟨h1, h2, h3, h4, h5, h6⟩ := ok
 unfold Size at hP
 unfold head_may.code
 rw [if_pos ((sized_iff _).2 (by omega)), if_pos ((right_iff _ _ _ _ _).2 (by omega)), if_neg (by omega)]
theorem hdOf_cast (x : Hd) : hdOf x.k x.l x.c x.r x.s = x := by cases x; simp [hdOf]
theorem sealed_of {x : Hd} (ok : x.ok) {b : ByteArray} {P : Nat} (hP : Size P) (hb : b.size + 16 ≤ P) : sealed x.k x.l x.c x.r x.s b P = (pageB x (L b) P, 0) := by
 unfold sealed
 rw [if_pos (code_of ok hP hb), hdOf_cast]
 rfl
theorem sealed_not {a0 a1 a2 a3 a4 : Int} {b : ByteArray} {p : Int} (h : ¬ head_may.code a0 a1 a2 a3 a4 b p = 0) : sealed a0 a1 a2 a3 a4 b p = (⟨#[]⟩, head_may.code a0 a1 a2 a3 a4 b p) := if_neg h
def headB (x : Hd) : ByteArray := ⟨(front x).toArray⟩
theorem headB_L (x : Hd) : L (headB x) = front x := L_mk _
theorem headB_size (x : Hd) : (headB x).size = 12 := size_mk _
theorem front_four (x : Hd) : (strOfNums [(x.k : Int) % 256, (x.l : Int) % 256, (x.c : Int) % 256, ((x.c / 256 : Nat) : Int) % 256] ++ fourB x.r) ++ fourB x.s = headB x := by
 refine L_inj ?_
 rw [headB_L, L_append, L_append, fourB_L, fourB_L]
 show (strOfNums _).data.toList ++ _ ++ _ = _
 rw [strOfNums_data]
 simp only [List.map_cons, List.map_nil, front]
 rw [show ((x.k : Int) % 256).toNat = x.k % 256 by omega, show ((x.l : Int) % 256).toNat = x.l % 256 by omega, show ((x.c : Int) % 256).toNat = x.c % 256 by omega, show (((x.c / 256 : Nat) : Int) % 256).toNat = (x.c / 256) % 256 by omega, ofNat_mod, ofNat_mod, ofNat_mod, ofNat_mod]
theorem size4 (a b c d : Int) : (strOfNums [a, b, c, d]).size = 4 := strOfNums_size _
theorem z4_size : (⟨#[0, 0, 0, 0]⟩ : ByteArray).size = 4 := rfl
theorem seal_ev (a0 a1 a2 a3 a4 : Int) (b : ByteArray) (p : Int) : Ev (fun k => head_Seal.f k a0 a1 a2 a3 a4 b p) (sealed a0 a1 a2 a3 a4 b p) := by
 unfold head_Seal.f
 by_cases hc : head_may.code a0 a1 a2 a3 a4 b p = 0
 ·
  obtain ⟨x, P, ok, rfl, rfl, rfl, rfl, rfl, rfl, hP, hb⟩ := code_zero hc
  rw [sealed_of ok hP hb]
  obtain ⟨o1, o2, o3, o4, o5, o6⟩ := ok
  unfold Size at hP
  refine ev_bind_now (show head_may.f _ _ _ _ _ _ _ = some 0 from congrArg some hc) (ev_pos rfl ?_)
  rw [Int.tdiv_eq_ediv_of_nonneg (by omega), show (x.c : Int) / 256 = ((x.c / 256 : Nat) : Int) by omega, w64 (x := ((x.c / 256 : Nat) : Int)) (by omega) (by omega), show (x.r : Int) % 4294967296 = (x.r : Int) by omega, show (x.s : Int) % 4294967296 = (x.s : Int) by omega]
  refine ev_bind (bytes_ev _ _ _ _) (ev_bind_now (four_eq _) (ev_pos (by rw [size4, fourB_size]; omega) (ev_bind_now (four_eq _) (ev_pos (by rw [ByteArray.size_append, size4, fourB_size, fourB_size]; omega) ?_))))
  rw [front_four]
  have hs := headB_size x
  refine ev_pos (by omega) (ev_pos (by rw [ByteArray.size_append, hs, z4_size]; omega) ?_)
  have hs2 : ((headB x ++ (⟨#[0, 0, 0, 0]⟩ : ByteArray)) ++ b).size = 16 + b.size := by rw [ByteArray.size_append, ByteArray.size_append, hs, z4_size]
  rw [hs2, w64 (by omega) (by omega), show (P : Int) - ((16 + b.size : Nat) : Int) = ((P - 16 - b.size : Nat) : Int) by omega]
  refine ev_bind_now (repeat_eq _ (by omega)) ?_
  have hs3 : (((headB x ++ (⟨#[0, 0, 0, 0]⟩ : ByteArray)) ++ b) ++ zerosB (P - 16 - b.size)).size = P := by rw [ByteArray.size_append, hs2, zerosB_size]; omega
  have hL : L (((headB x ++ (⟨#[0, 0, 0, 0]⟩ : ByteArray)) ++ b) ++ zerosB (P - 16 - b.size)) = front x ++ [0, 0, 0, 0] ++ rest (L b) P := by
   rw [L_append, L_append, L_append, headB_L, zerosB_L, rest, L_length, List.append_assoc, List.append_assoc]
  refine ev_pos (by rw [zerosB_size]; omega) (ev_pos (by omega) (ev_pos (by rw [hs3]; omega) (ev_bind_now (sum_eq _ (by rw [hs3]; omega)) (ev_bind_now (four_eq _) ?_))))
  have hf := front_length x
  have e12 : L ((((headB x ++ (⟨#[0, 0, 0, 0]⟩ : ByteArray)) ++ b) ++ zerosB (P - 16 - b.size)).extract 0 12) = front x := by
   rw [L_to, hL, List.append_assoc, List.take_left' hf]
  have e16 : L ((((headB x ++ (⟨#[0, 0, 0, 0]⟩ : ByteArray)) ++ b) ++ zerosB (P - 16 - b.size)).extract 16 (((headB x ++ (⟨#[0, 0, 0, 0]⟩ : ByteArray)) ++ b) ++ zerosB (P - 16 - b.size)).size) = rest (L b) P := by
   rw [L_from, hL, List.drop_left' (by simp [hf])]
  have z12 := L_length ((((headB x ++ (⟨#[0, 0, 0, 0]⟩ : ByteArray)) ++ b) ++ zerosB (P - 16 - b.size)).extract 0 12)
  have z16 := L_length ((((headB x ++ (⟨#[0, 0, 0, 0]⟩ : ByteArray)) ++ b) ++ zerosB (P - 16 - b.size)).extract 16 (((headB x ++ (⟨#[0, 0, 0, 0]⟩ : ByteArray)) ++ b) ++ zerosB (P - 16 - b.size)).size)
  rw [e12] at z12
  rw [e16, rest_length (by rw [L_length]; omega)] at z16
  refine ev_pos (by rw [fourB_size]; omega) (ev_pos (by rw [hs3]; omega) (ev_pos (by rw [ByteArray.size_append, fourB_size]; omega) (ev_some' ?_)))
  refine Prod.ext (L_inj ?_) rfl
  rw [L_append, L_append, e12, e16, fourB_L, hL, pageB_L]
  rfl
 ·
  rw [sealed_not hc]
  exact ev_bind_now rfl (ev_neg hc ev_some)
abbrev Opened := Int × Int × Int × Int × Int × ByteArray × Int
end Go.Proofs.YtafebmhmcdnhkaaGreat.HSpec
namespace Go.Proofs.YtafebmhmcdnhkaaGreat.Spec
open Go.RowKit Go.Proofs.YtafebmhmcdnhkaaGreatW.PrintWords Go.Proofs.YtafebmhmcdnhkaaGreatW.PrintLast Go.Proofs.YtafebmhmcdnhkaaGreatW.PrintMore Go.Proofs.YtafebmhmcdnhkaaGreatEv Go.Proofs.YtafebmhmcdnhkaaGreatMath Go.Proofs.YtafebmhmcdnhkaaGreatSlot Go.Proofs.YtafebmhmcdnhkaaGreat.P Go.Proofs.YtafebmhmcdnhkaaGreatW.Abbr
theorem ev_all {α : Type} {g : Nat → Option α} {r : α} (h : ∀ k, g k = some r) : Ev g r := ⟨0, fun k _ => h k⟩
theorem size_append' (a b : ByteArray) : (a ++ b).size = a.size + b.size := by rw [← L_length, L_append, List.length_append, L_length, L_length]
def putS (n : Nat) : ByteArray := ⟨#[UInt8.ofNat n]⟩
theorem putS_size (n : Nat) : (putS n).size = 1 := rfl
theorem putS_of (n : Nat) : strOfNums ([((n : Int)) % 256] : List Int) = putS n := by
 apply L_inj
 show (strOfNums _).data.toList = _
 rw [strOfNums_data]
 simp only [List.map_cons, List.map_nil]
 rw [show ((n : Int) % 256).toNat = n % 256 by omega]
 have : UInt8.ofNat (n % 256) = UInt8.ofNat n := by rw [← UInt8.toNat_inj]; simp
 rw [this]
 rfl
theorem wput_small (k n : Nat) (h : n ≤ 240) : word_Put.f k (IntKind.u64.wrap (n : Int)) = some (putS n) := by
 rw [u64_id (by omega) (by omega)]
 unfold word_Put.f
 rw [if_pos (by omega), putS_of]
def fourB (n : Nat) : ByteArray := strOfNums ([(n : Int) % 256, ((n : Int) / 256) % 256, ((n : Int) / 65536) % 256, ((n : Int) / 16777216) % 256] : List Int)
theorem fourB_size (n : Nat) : (fourB n).size = 4 := by
 unfold fourB
 rw [← L_length]
 show (strOfNums _).data.toList.length = _
 rw [strOfNums_data]
 rfl
theorem four_eq (n : Nat) : word_Four.f (n : Int) = some (fourB n) := rfl
def kidC (kid : Nat) (s : ByteArray) : ByteArray := fourB kid ++ (putS s.size ++ s)
theorem kidC_size (kid : Nat) (s : ByteArray) : (kidC kid s).size = 5 + s.size := by
 unfold kidC
 rw [size_append', size_append', fourB_size, putS_size]
 omega
theorem text_ev (s : ByteArray) (h : s.size ≤ 240) : Ev (fun k => cell_text.f k s) (putS s.size ++ s) := by
 unfold cell_text.f
 exact ev_bind (ev_all fun k => wput_small k _ h) (ev_pos (by rw [putS_size]; omega) ev_some)
theorem kid_ev (kid : Nat) (s : ByteArray) (h1 : 1 ≤ kid) (h2 : kid < 4096) (hs : s.size ≤ 128) : Ev (fun k => cell_PutKid.f k (kid : Int) s) (kidC kid s, 0) := by
 unfold cell_PutKid.f cell_page.f
 refine ev_bind_now (show (if (kid : Int) ≥ 1 then some (decide ((kid : Int) < 4096)) else some false) = some true by rw [if_pos (by omega)]; simp; omega) (ev_pos rfl (ev_step ?_))
 simp only [cell_PutKid.j0]
 refine ev_neg (by simp; omega) ?_
 rw [show (kid : Int) % 4294967296 = (kid : Int) by omega]
 refine ev_bind_now (four_eq kid) (ev_bind (text_ev s (by omega)) (ev_pos ?_ ev_some))
 rw [fourB_size, size_append', putS_size]
 omega
def cellsOf : List Nat → List ByteArray → List ByteArray
 | [], _ => []
 | k :: ks, rest => kidC k ⟨#[]⟩ :: List.zipWith kidC ks rest
theorem cellsOf_length (k : Nat) (ks : List Nat) (rest : List ByteArray) (h : ks.length = rest.length) : (cellsOf (k :: ks) rest).length = rest.length + 1 := by
 simp [cellsOf, List.length_zipWith, h]
theorem cellsOf_get (k : Nat) (ks : List Nat) (rest : List ByteArray) (i : Nat) (hi : i < ks.length) (hr : i < rest.length) : (cellsOf (k :: ks) rest)[i + 1]? = some (kidC ks[i] rest[i]) := by
 simp [cellsOf, List.getElem?_zipWith, List.getElem?_eq_getElem hi, List.getElem?_eq_getElem hr]
def fixedB (all high : ByteArray) : ByteArray := ((putS all.size ++ all) ++ putS high.size) ++ high
theorem fixedB_size (all high : ByteArray) : (fixedB all high).size = 2 + all.size + high.size := by
 unfold fixedB
 rw [size_append', size_append', size_append', putS_size, putS_size]
 omega
theorem parts_loop (all high : ByteArray) (ha : all.size ≤ 240) (hh : high.size ≤ 240) (k0 : Nat) (ks : List Nat) (rest : List ByteArray) (hl : ks.length = rest.length) (hn : rest.length ≤ 100000) (hk : ∀ x ∈ k0 :: ks, 1 ≤ x ∧ x < 4096) (hs : ∀ s ∈ rest, s.size ≤ 128) (a b c : Int) (l4 : List Int) (l5 : List ByteArray) :
  ∀ (d i : Nat), i ≤ rest.length + 1 → rest.length + 1 - i = d →
  Ev (fun k => inner_parts.l0 k all rest ((cellsOf (k0 :: ks) rest).take i) ((k0 :: ks).map (fun x : Nat => (x : Int))) ((rest.length : Int) + 1) (i : Int) a b c high l4 l5) (fixedB all high, cellsOf (k0 :: ks) rest) := by
 intro d
 have hcl := cellsOf_length k0 ks rest hl
 induction d with
 | zero =>
  intro i h1 hd
  refine ev_step ?_
  simp only [inner_parts.l0]
  refine ev_neg (by omega) ?_
  rw [List.take_of_length_le (by omega)]
  refine ev_bind (ev_all fun k => wput_small k _ ha) (ev_pos (by rw [putS_size]; omega) (ev_bind (ev_all fun k => wput_small k _ hh) (ev_pos ?_ (ev_pos ?_ ev_some))))
  ·
   rw [size_append', putS_size, putS_size]; omega
  ·
   rw [size_append', size_append', putS_size, putS_size]; omega
 | succ d ih =>
  intro i h1 hd
  refine ev_step ?_
  simp only [inner_parts.l0]
  have hil : (((k0 :: ks).map (fun x : Nat => (x : Int))).length : Int) = (rest.length : Int) + 1 := by simp [hl]
  refine ev_pos (by omega) (ev_pos (by omega) (ev_pos (by omega) ?_))
  have htl : ((cellsOf (k0 :: ks) rest).take i).length = i := by rw [List.length_take]; omega
  have hnext : ∀ x, (cellsOf (k0 :: ks) rest)[i]? = some x → (cellsOf (k0 :: ks) rest).take i ++ [x] = (cellsOf (k0 :: ks) rest).take (i + 1) := fun x hx => by rw [List.take_add_one, hx]; rfl
  cases i with
  | zero =>
   refine ev_neg (by omega) ?_
   have hk0 := hk k0 (List.mem_cons_self)
   have e : rd ((k0 :: ks).map (fun x : Nat => (x : Int))) ((0 : Nat) : Int) = (k0 : Int) := rfl
   rw [e]
   refine ev_bind (kid_ev k0 ⟨#[]⟩ hk0.1 hk0.2 (by decide)) (ev_pos (by omega) ?_)
   rw [w64_succ (by omega)]
   have := ih 1 (by omega) (by omega)
   rw [← hnext _ (show (cellsOf (k0 :: ks) rest)[0]? = some (kidC k0 ⟨#[]⟩) from rfl)] at this
   exact this
  | succ j =>
   have hj : j < rest.length := by omega
   have hjk : j < ks.length := by omega
   refine ev_pos (by omega) ?_
   rw [w64 (x := ((j + 1 : Nat) : Int) - 1) (by omega) (by omega), show ((j + 1 : Nat) : Int) - 1 = (j : Int) by omega]
   refine ev_pos (by omega) (ev_pos (by omega) ?_)
   rw [rdOf_nat _ rest j hj]
   have hkj := hk ks[j] (List.mem_cons_of_mem _ (List.getElem_mem hjk))
   have e : rd ((k0 :: ks).map (fun x : Nat => (x : Int))) ((j + 1 : Nat) : Int) = (ks[j] : Int) := by
    rw [rd_nat _ (j + 1) (by simp; omega)]
    simp
   rw [e]
   refine ev_bind (kid_ev ks[j] rest[j] hkj.1 hkj.2 (hs _ (List.getElem_mem hj))) (ev_pos (by omega) ?_)
   rw [w64_succ (by omega)]
   have := ih (j + 2) (by omega) (by omega)
   rw [← hnext _ (cellsOf_get k0 ks rest j hjk hj)] at this
   exact this
def isz (k0 : Nat) (ks : List Nat) (seps : List ByteArray) (high : ByteArray) : Nat := need (fixedB (stripped seps).1 high) (cellsOf (k0 :: ks) (stripped seps).2)
theorem stripped_fst_size (seps : List ByteArray) : (stripped seps).1.size = span (seps.map L) := by
 cases seps with
 | nil => rfl
 | cons s r =>
  show (s.extract 0 (span ((s :: r).map L))).size = _
  have := span_le_size (l := s :: r) (s := s) (List.mem_cons_self)
  rw [size_extract]
  omega
theorem stripped_snd_length (seps : List ByteArray) : (stripped seps).2.length = seps.length := by simp [stripped]
theorem stripped_snd_size {seps : List ByteArray} {n : Nat} (h : ∀ s ∈ seps, s.size ≤ n) : ∀ s ∈ (stripped seps).2, s.size ≤ n := by
 intro s hs
 simp only [stripped, List.mem_map] at hs
 obtain ⟨x, hx, rfl⟩ := hs
 have := h x hx
 rw [size_extract]
 omega
theorem cat_zip : ∀ (ks : List Nat) (rest : List ByteArray), ks.length = rest.length → (cat (List.zipWith kidC ks rest)).length = 5 * rest.length + (rest.map (·.size)).sum
 | [], [], _ => rfl
 | k :: ks, s :: rest, h => by
  rw [List.zipWith_cons_cons, cat_cons, List.length_append, L_length, kidC_size, cat_zip ks rest (by simpa using h)]
  simp only [List.length_cons, List.map_cons, List.sum_cons]
  omega
theorem isz_eq (k0 : Nat) (ks : List Nat) (seps : List ByteArray) (high : ByteArray) (hl : ks.length = seps.length) :
  isz k0 ks seps high = 11 + span (seps.map L) + high.size + 7 * seps.length + ((stripped seps).2.map (·.size)).sum := by
 have h2 := stripped_snd_length seps
 unfold isz need
 rw [fixedB_size, stripped_fst_size, cellsOf_length _ _ _ (by omega)]
 show _ + (cat (kidC k0 ⟨#[]⟩ :: List.zipWith kidC ks (stripped seps).2)).length + _ = _
 rw [cat_cons, List.length_append, L_length, kidC_size, cat_zip _ _ (by omega), h2]
 show _ + (5 + 0 + _) + _ = _
 omega
theorem sum_le {n : Nat} : ∀ (l : List ByteArray), (∀ s ∈ l, s.size ≤ n) → (l.map (·.size)).sum ≤ l.length * n
 | [], _ => by simp
 | s :: l, h => by
  have h1 := h s (List.mem_cons_self)
  have h2 := sum_le l (fun x hx => h x (List.mem_cons_of_mem _ hx))
  simp only [List.map_cons, List.sum_cons, List.length_cons, Nat.succ_mul]
  omega
theorem isz_le (k0 : Nat) (ks : List Nat) (seps : List ByteArray) (high : ByteArray) (hl : ks.length = seps.length) (hs : ∀ s ∈ seps, s.size ≤ 128) (hh : high.size ≤ 240) (hn : seps.length ≤ 100000) : isz k0 ks seps high ≤ 100000000 := by
 rw [isz_eq _ _ _ _ hl]
 have h1 := sum_le _ (stripped_snd_size hs)
 have h2 : span (seps.map L) ≤ 128 := by
  cases seps with
  | nil => exact Nat.zero_le _
  | cons s r => exact Nat.le_trans (span_le_size (l := s :: r) (s := s) (List.mem_cons_self)) (hs s (List.mem_cons_self))
 have h3 := stripped_snd_length seps
 rw [h3] at h1
 omega
theorem size_ev (k0 : Nat) (ks : List Nat) (seps : List ByteArray) (high : ByteArray) (hl : ks.length = seps.length) (hk : ∀ x ∈ k0 :: ks, 1 ≤ x ∧ x < 4096) (hs : ∀ s ∈ seps, s.size ≤ 128) (hh : high.size ≤ 240) (hn : seps.length ≤ 100000) (a b c : Int) :
  Ev (fun k => inner_Size.f k a b c high ((k0 :: ks).map (fun x : Nat => (x : Int))) seps) (isz k0 ks seps high : Int) := by
 have hz := isz_le k0 ks seps high hl hs hh hn
 have h2 := stripped_snd_length seps
 have h3 : (stripped seps).1.size ≤ 240 := by
  rw [stripped_fst_size]
  cases seps with
  | nil => exact Nat.zero_le _
  | cons s r => exact Nat.le_trans (span_le_size (l := s :: r) (s := s) (List.mem_cons_self)) (Nat.le_trans (hs s (List.mem_cons_self)) (by omega))
 unfold inner_Size.f inner_parts.f
 refine ev_bind (a := (fixedB (stripped seps).1 high, cellsOf (k0 :: ks) (stripped seps).2)) ?_ (ev_bind_now (size_eq _ _ (by show need (fixedB (stripped seps).1 high) (cellsOf (k0 :: ks) (stripped seps).2) ≤ _; unfold isz at hz; omega)) ev_some)
 refine ev_bind (strip_ev seps (fun s h => Nat.le_trans (hs s h) (by omega)) (by omega)) ?_
 have := parts_loop (stripped seps).1 high h3 hh k0 ks (stripped seps).2 (by omega) (by omega) hk (stripped_snd_size hs) a b c ((k0 :: ks).map (fun x : Nat => (x : Int))) seps _ 0 (by omega) rfl
 rw [h2] at this
 have e : (((k0 :: ks).map (fun x : Nat => (x : Int))).length : Int) = (seps.length : Int) + 1 := by simp [hl]
 rw [e]
 exact this
def numOk (x : Int) : Bool := decide (1 ≤ x) && decide (x < 4096)
theorem number_eq (x : Int) : inner_number.f x = some (numOk x) := by
 unfold inner_number.f numOk
 by_cases h : x ≥ 1
 ·
  rw [if_pos h, decide_eq_true (show 1 ≤ x from h)]; rfl
 ·
  rw [if_neg h, decide_eq_false (show ¬ 1 ≤ x from h)]; rfl
def diskOk (p : Int) : Bool := decide (p = 128) || decide (p = 256) || decide (p = 512) || decide (p = 1024)
theorem disk_eq (p : Int) : disk_Size.f p = some (diskOk p) := rfl
theorem diskOk_iff (p : Int) : diskOk p = true ↔ p = 128 ∨ p = 256 ∨ p = 512 ∨ p = 1024 := by simp [diskOk, or_assoc]
theorem odd_any (l : List Int) : l.any inner_odd = !(l.all numOk) := by
 induction l with
 | nil => rfl
 | cons x r ih =>
  rw [List.any_cons, List.all_cons, ih]
  have : inner_odd x = !numOk x := rfl
  rw [this]
  cases numOk x <;> simp
def sepsOk (r : Int) (h : List UInt8) (q : Int) : List UInt8 → List ByteArray → Bool
 | _, [] => true
 | a, s :: l => lt a (L s) && (decide ((s.size : Int) ≤ q) && ((decide (r = 0) || lt (L s) h) && sepsOk r h q (L s) l))
theorem may_loop (a0 a1 r p : Int) (high : ByteArray) (kids : List Int) (seps l : List ByteArray) (hl : seps.length ≤ 140737488351232) : ∀ (d i : Nat) (a : ByteArray), i ≤ seps.length → seps.length - i = d →
  Ev (fun k => inner_May.l0 k p a seps (seps.length : Int) (i : Int) a0 a1 r high kids l) (sepsOk r (L high) (wrap64 (Int.tdiv p 8)) (L a) (seps.drop i)) := by
 intro d
 induction d with
 | zero =>
  intro i a h1 hd
  refine ev_step ?_
  simp only [inner_May.l0]
  refine ev_neg (by omega) (ev_some' ?_)
  rw [List.drop_of_length_le (by omega)]
  rfl
 | succ d ih =>
  intro i a h1 hd
  have hi : i < seps.length := by omega
  refine ev_step ?_
  simp only [inner_May.l0, L_toList]
  refine ev_pos (by omega) (ev_pos (by omega) (ev_pos (by omega) ?_))
  rw [rdOf_nat _ seps i hi, List.drop_eq_getElem_cons hi]
  simp only [sepsOk]
  have next : lt (L a) (L seps[i]) = true → ¬ (seps[i].size : Int) > wrap64 (Int.tdiv p 8) → (decide (r = 0) || lt (L seps[i]) (L high)) = true → Ev (fun k => inner_May.l0 k p seps[i] seps (seps.length : Int) (wrap64 ((i : Int) + 1)) a0 a1 r high kids l) (lt (L a) (L seps[i]) && (decide ((seps[i].size : Int) ≤ wrap64 (Int.tdiv p 8)) && ((decide (r = 0) || lt (L seps[i]) (L high)) && sepsOk r (L high) (wrap64 (Int.tdiv p 8)) (L seps[i]) (seps.drop (i + 1))))) := fun h2 h3 h4 => by
   rw [w64_succ (by omega)]
   refine ev_eq (ih (i + 1) seps[i] (by omega) (by omega)) ?_
   rw [h2, h4, decide_eq_true (show (seps[i].size : Int) ≤ wrap64 (Int.tdiv p 8) by omega)]
   rfl
  by_cases h2 : lt (L a) (L seps[i]) = true
  ·
   refine ev_pos h2 ?_
   by_cases h3 : (seps[i].size : Int) > wrap64 (Int.tdiv p 8)
   ·
    refine ev_pos h3 (ev_some' ?_)
    rw [decide_eq_false (show ¬ (seps[i].size : Int) ≤ wrap64 (Int.tdiv p 8) by omega)]
    simp
   ·
    refine ev_neg h3 ?_
    by_cases h4 : r = 0
    ·
     exact ev_pos h4 (next h2 h3 (by rw [decide_eq_true h4]; rfl))
    ·
     refine ev_neg h4 ?_
     by_cases h5 : lt (L seps[i]) (L high) = true
     ·
      exact ev_pos h5 (next h2 h3 (by rw [h5]; simp))
     ·
      refine ev_neg h5 (ev_some' ?_)
      rw [show lt (L seps[i]) (L high) = false by simpa using h5, decide_eq_false h4]
      simp
  ·
   refine ev_neg h2 (ev_some' ?_)
   rw [show lt (L a) (L seps[i]) = false by simpa using h2]
   rfl
theorem may_j1 (a0 a1 r p : Int) (high : ByteArray) (kids : List Int) (seps : List ByteArray) (hl : seps.length ≤ 140737488351232) (t : Bool) : Ev (fun k => inner_May.j1 k p t a0 a1 r high kids seps) (!t && sepsOk r (L high) (wrap64 (Int.tdiv p 8)) [] seps) := by
 refine ev_step ?_
 simp only [inner_May.j1]
 cases t with
 | true => exact ev_pos rfl (ev_some' rfl)
 | false => exact ev_neg (by decide) (ev_eq (may_loop a0 a1 r p high kids seps seps hl _ 0 ⟨#[]⟩ (Nat.zero_le _) rfl) (by rw [List.drop_zero]; rfl))
def mayRest (r : Int) (high : ByteArray) (kids : List Int) (seps : List ByteArray) (p : Int) : Bool :=
 decide ((kids.length : Int) = (seps.length : Int) + 1) && (kids.all numOk && (!((r == 0) != (L high == [])) && (decide ((high.size : Int) ≤ wrap64 (Int.tdiv p 8)) && sepsOk r (L high) (wrap64 (Int.tdiv p 8)) [] seps)))
theorem may_j0 (a0 a1 r p : Int) (high : ByteArray) (kids : List Int) (seps : List ByteArray) (hl : seps.length ≤ 140737488351232) (t : Bool) : Ev (fun k => inner_May.j0 k p t a0 a1 r high kids seps) (!t && mayRest r high kids seps p) := by
 have J := may_j1 a0 a1 r p high kids seps hl
 have B : Ev (fun k => inner_May.j1 k p true a0 a1 r high kids seps) false := J true
 refine ev_step ?_
 simp only [inner_May.j0, L_toList]
 cases t with
 | true => exact ev_pos rfl (ev_some' rfl)
 | false =>
  refine ev_neg (by decide) ?_
  rw [w64 (by omega) (by omega)]
  show Ev _ (mayRest r high kids seps p)
  unfold mayRest
  by_cases h1 : (kids.length : Int) = (seps.length : Int) + 1
  ·
   rw [decide_eq_true h1]
   refine ev_pos h1 (ev_bind_now (show slices_ContainsFunc_int_int.f kids 48484848 = some (!(kids.all numOk)) by rw [← odd_any]; exact if_pos (by omega)) ?_)
   cases h2 : kids.all numOk with
   | false => exact ev_pos rfl B
   | true =>
    refine ev_neg (by decide) ?_
    cases h3 : ((r == 0) != (L high == [])) with
    | true => exact ev_pos rfl B
    | false =>
     refine ev_neg (by decide) (ev_eq (J _) ?_)
     by_cases h4 : (high.size : Int) > wrap64 (Int.tdiv p 8)
     ·
      rw [decide_eq_true h4, decide_eq_false (show ¬ (high.size : Int) ≤ wrap64 (Int.tdiv p 8) by omega)]; rfl
     ·
      rw [decide_eq_false h4, decide_eq_true (show (high.size : Int) ≤ wrap64 (Int.tdiv p 8) by omega)]; rfl
  ·
   rw [decide_eq_false h1]
   exact ev_neg h1 B
def mayOk (a0 a1 r : Int) (high : ByteArray) (kids : List Int) (seps : List ByteArray) (p : Int) : Bool :=
 diskOk p && (numOk a0 && (decide (1 ≤ a1) && (decide (a1 < 256) && ((decide (r = 0) || numOk r) && (!(r == a0) && mayRest r high kids seps p)))))
theorem may_ev (a0 a1 r : Int) (high : ByteArray) (kids : List Int) (seps : List ByteArray) (p : Int) (hl : seps.length ≤ 140737488351232) : Ev (fun k => inner_May.f k a0 a1 r high kids seps p) (mayOk a0 a1 r high kids seps p) := by
 have J := may_j0 a0 a1 r p high kids seps hl
 have B : Ev (fun k => inner_May.j0 k p true a0 a1 r high kids seps) false := J true
 unfold inner_May.f mayOk
 refine ev_bind_now (disk_eq p) ?_
 cases h0 : diskOk p with
 | false => exact ev_neg (by decide) B
 | true =>
  refine ev_pos rfl (ev_bind_now (number_eq a0) ?_)
  cases h1 : numOk a0 with
  | false => exact ev_neg (by decide) B
  | true =>
   refine ev_pos rfl ?_
   by_cases h2 : a1 < 1
   ·
    rw [decide_eq_false (show ¬ 1 ≤ a1 by omega)]
    exact ev_pos h2 B
   ·
    rw [decide_eq_true (show 1 ≤ a1 by omega)]
    refine ev_neg h2 ?_
    by_cases h3 : a1 ≥ 256
    ·
     rw [decide_eq_false (show ¬ a1 < 256 by omega)]
     exact ev_pos h3 B
    ·
     rw [decide_eq_true (show a1 < 256 by omega)]
     refine ev_neg h3 ?_
     by_cases h4 : r = 0
     ·
      rw [decide_eq_true h4]
      exact ev_pos h4 (J _)
     ·
      rw [decide_eq_false h4]
      refine ev_neg h4 (ev_bind_now (number_eq r) ?_)
      cases h5 : numOk r with
      | false => exact ev_neg (by decide) B
      | true => exact ev_pos rfl (J _)
theorem numOk_iff (x : Int) : numOk x = true ↔ 1 ≤ x ∧ x < 4096 := by simp [numOk]
theorem sepsOk_size {r : Int} {h : List UInt8} {q : Int} : ∀ {l : List ByteArray} {a : List UInt8}, sepsOk r h q a l = true → ∀ s ∈ l, (s.size : Int) ≤ q
 | [], _, _, s, hs => by cases hs
 | x :: l, a, e, s, hs => by
  simp only [sepsOk, Bool.and_eq_true, decide_eq_true_eq] at e
  rcases List.mem_cons.1 hs with rfl | hs
  ·
   exact e.2.1
  ·
   exact sepsOk_size e.2.2.2 s hs
theorem q8 {p : Int} (h : p = 128 ∨ p = 256 ∨ p = 512 ∨ p = 1024) : 8 * wrap64 (Int.tdiv p 8) = p := by
 rw [Int.tdiv_eq_ediv_of_nonneg (by omega), w64 (by omega) (by omega)]
 omega
theorem may_facts {a0 a1 r : Int} {high : ByteArray} {kids : List Int} {seps : List ByteArray} {p : Int} (h : mayOk a0 a1 r high kids seps p = true) :
  (p = 128 ∨ p = 256 ∨ p = 512 ∨ p = 1024) ∧ (1 ≤ a0 ∧ a0 < 4096) ∧ (1 ≤ a1 ∧ a1 < 256) ∧ (0 ≤ r ∧ r < 4096) ∧ r ≠ a0 ∧ kids.length = seps.length + 1 ∧ (∀ x ∈ kids, 1 ≤ x ∧ x < 4096) ∧ (r = 0 ↔ L high = []) ∧ 8 * (high.size : Int) ≤ p ∧ (∀ s ∈ seps, 8 * (s.size : Int) ≤ p) ∧ sepsOk r (L high) (wrap64 (Int.tdiv p 8)) [] seps = true := by
 simp only [mayOk, mayRest, Bool.and_eq_true, Bool.or_eq_true, decide_eq_true_eq, Bool.not_eq_true', beq_eq_false_iff_ne, ne_eq, numOk_iff, diskOk_iff, List.all_eq_true] at h
 obtain ⟨h0, h1, h2, h3, h4, h5, h6, h7, h8, h9, h10⟩ := h
 have hq := q8 h0
 have hs := sepsOk_size h10
 refine ⟨h0, h1, ⟨h2, h3⟩, by omega, h5, by omega, h7, ?_, by omega, fun s m => by have := hs s m; omega, h10⟩
 have : (r == 0) = (L high == []) := by simpa using h8
 rw [← beq_iff_eq, ← beq_iff_eq (a := L high), this]
theorem stripped_fst_le {seps : List ByteArray} {n : Nat} (hs : ∀ s ∈ seps, s.size ≤ n) : (stripped seps).1.size ≤ n := by
 rw [stripped_fst_size]
 cases seps with
 | nil => exact Nat.zero_le _
 | cons s r => exact Nat.le_trans (span_le_size (l := s :: r) (s := s) (List.mem_cons_self)) (hs s (List.mem_cons_self))
theorem parts_ev (k0 : Nat) (ks : List Nat) (seps : List ByteArray) (high : ByteArray) (hl : ks.length = seps.length) (hk : ∀ x ∈ k0 :: ks, 1 ≤ x ∧ x < 4096) (hs : ∀ s ∈ seps, s.size ≤ 128) (hh : high.size ≤ 240) (hn : seps.length ≤ 100000) (a b c : Int) :
  Ev (fun k => inner_parts.f k a b c high ((k0 :: ks).map (fun x : Nat => (x : Int))) seps) (fixedB (stripped seps).1 high, cellsOf (k0 :: ks) (stripped seps).2) := by
 have h2 := stripped_snd_length seps
 have h3 : (stripped seps).1.size ≤ 240 := stripped_fst_le fun s h => Nat.le_trans (hs s h) (by omega)
 unfold inner_parts.f
 refine ev_bind (strip_ev seps (fun s h => Nat.le_trans (hs s h) (by omega)) (by omega)) ?_
 have := parts_loop (stripped seps).1 high h3 hh k0 ks (stripped seps).2 (by omega) (by omega) hk (stripped_snd_size hs) a b c ((k0 :: ks).map (fun x : Nat => (x : Int))) seps _ 0 (by omega) rfl
 rw [h2] at this
 have e : (((k0 :: ks).map (fun x : Nat => (x : Int))).length : Int) = (seps.length : Int) + 1 := by simp [hl]
 rw [e]
 exact this
def inNeed (kids : List Int) (seps : List ByteArray) (high : ByteArray) : Nat := need (fixedB (stripped seps).1 high) (cellsOf (kids.map Int.toNat) (stripped seps).2)
def inBody (room : Nat) (kids : List Int) (seps : List ByteArray) (high : ByteArray) : ByteArray := body room (fixedB (stripped seps).1 high) (cellsOf (kids.map Int.toNat) (stripped seps).2)
def inHd (a0 a1 r : Int) (kids : List Int) : Go.Proofs.YtafebmhmcdnhkaaGreatHead.Hd := ⟨3, a1.toNat, kids.length, r.toNat, a0.toNat⟩
def inPage (a0 a1 r : Int) (high : ByteArray) (kids : List Int) (seps : List ByteArray) (p : Nat) : ByteArray := Go.Proofs.YtafebmhmcdnhkaaGreatHead.pageB (inHd a0 a1 r kids) (L (inBody (p - 16) kids seps high)) p
def enc (a0 a1 r : Int) (high : ByteArray) (kids : List Int) (seps : List ByteArray) (p : Int) : ByteArray × Int :=
 if diskOk p = true then (if mayOk a0 a1 r high kids seps p = true then (if (inNeed kids seps high : Int) ≤ p - 16 then (inPage a0 a1 r high kids seps p.toNat, 0) else (⟨#[]⟩, 8)) else (⟨#[]⟩, 3)) else (⟨#[]⟩, 4)
theorem cellsOf_len : ∀ (ks : List Nat) (rest : List ByteArray), ks.length = rest.length + 1 → (cellsOf ks rest).length = rest.length + 1
 | k :: ks, rest, h => cellsOf_length k ks rest (by simpa using h)
theorem nat_kids {kids : List Int} (h : ∀ x ∈ kids, 1 ≤ x ∧ x < 4096) : (kids.map Int.toNat).map (fun x : Nat => (x : Int)) = kids := by
 rw [List.map_map]
 refine (List.map_congr_left fun x hx => ?_).trans (List.map_id kids)
 have := h x hx
 show ((x.toNat : Nat) : Int) = id x
 simp only [id]
 omega
theorem size_cases {p : Int} (h : p = 128 ∨ p = 256 ∨ p = 512 ∨ p = 1024) : ∃ P : Nat, p = (P : Int) ∧ HSpec.Size P := by
 refine ⟨p.toNat, by omega, ?_⟩
 show p.toNat = 128 ∨ p.toNat = 256 ∨ p.toNat = 512 ∨ p.toNat = 1024
 omega
theorem need_len (f : ByteArray) (cs : List ByteArray) : 2 * cs.length ≤ need f cs := by unfold need; omega
theorem inNeed_isz (k0 : Nat) (ks : List Nat) (kids : List Int) (seps : List ByteArray) (high : ByteArray) (e : kids.map Int.toNat = k0 :: ks) : inNeed kids seps high = isz k0 ks seps high := by unfold inNeed isz; rw [e]
theorem enc_ev (a0 a1 r : Int) (high : ByteArray) (kids : List Int) (seps : List ByteArray) (p : Int) (hl : seps.length ≤ 100000) : Ev (fun k => inner_Encode.f k a0 a1 r high kids seps p) (enc a0 a1 r high kids seps p) := by
 unfold inner_Encode.f enc
 refine ev_bind_now (disk_eq p) ?_
 by_cases hd : diskOk p = true
 ·
  rw [if_pos hd]
  refine ev_pos hd (ev_bind (may_ev a0 a1 r high kids seps p (by omega)) ?_)
  by_cases hm : mayOk a0 a1 r high kids seps p = true
  ·
   rw [if_pos hm]
   refine ev_pos hm ?_
   obtain ⟨h0, h1, h2, h3, h4, h5, h6, h7, h8, h9, h10⟩ := may_facts hm
   obtain ⟨P, rfl, hP⟩ := size_cases h0
   have hb : P ≤ 1024 ∧ 128 ≤ P := by rcases hP with rfl | rfl | rfl | rfl <;> omega
   obtain ⟨k0, ks, ek⟩ : ∃ k0 ks, kids.map Int.toNat = k0 :: ks := by
    cases h : kids.map Int.toNat with
    | nil =>
     have h11 : (kids.map Int.toNat).length = 0 := by rw [h]; rfl
     rw [List.length_map] at h11
     omega
    | cons a b => exact ⟨a, b, rfl⟩
   have en := nat_kids h6
   have hlen : ks.length = seps.length := by have := congrArg List.length ek; simp at this; omega
   have hk : ∀ x ∈ k0 :: ks, 1 ≤ x ∧ x < 4096 := fun x hx => by
    rw [← ek] at hx
    obtain ⟨y, hy, rfl⟩ := List.mem_map.1 hx
    have := h6 y hy
    omega
   have hs : ∀ s ∈ seps, s.size ≤ 128 := fun s m => by have := h9 s m; omega
   have hh : high.size ≤ 240 := by omega
   have hz := isz_le k0 ks seps high hlen hs hh hl
   have ei := inNeed_isz k0 ks kids seps high ek
   have ep := parts_ev k0 ks seps high hlen hk hs hh hl a0 a1 r
   rw [← ek, en] at ep
   refine ev_bind ep ?_
   have ew : wrap64 ((P : Int) - 16) = ((P - 16 : Nat) : Int) := by rw [w64 (by omega) (by omega)]; omega
   rw [ew]
   have hneed : need (fixedB (stripped seps).1 high) (cellsOf (kids.map Int.toNat) (stripped seps).2) = inNeed kids seps high := rfl
   refine ev_bind (pack_ev ((P - 16 : Nat) : Int) (fixedB (stripped seps).1 high) (cellsOf (kids.map Int.toNat) (stripped seps).2) (by rw [hneed, ei]; omega)) ?_
   by_cases hf : (inNeed kids seps high : Int) ≤ (P : Int) - 16
   ·
    rw [if_pos hf, packed_ok (room := P - 16) (f := (fixedB (stripped seps).1 high)) (cs := (cellsOf (kids.map Int.toNat) (stripped seps).2)) (by rw [hneed]; omega) (by omega)]
    refine ev_pos rfl ?_
    have hcl : (cellsOf (kids.map Int.toNat) (stripped seps).2).length = kids.length := by
     rw [cellsOf_len _ _ (by rw [List.length_map, stripped_snd_length]; omega), stripped_snd_length]
     omega
    have hnl := need_len (fixedB (stripped seps).1 high) (cellsOf (kids.map Int.toNat) (stripped seps).2)
    rw [hcl, hneed] at hnl
    have hbs : (body (P - 16) (fixedB (stripped seps).1 high) (cellsOf (kids.map Int.toNat) (stripped seps).2)).size = P - 16 := body_size (by rw [hneed]; omega)
    have ok : (inHd a0 a1 r kids).ok := by
     show 1 ≤ 3 ∧ 3 < 5 ∧ a1.toNat < 256 ∧ kids.length < 65536 ∧ r.toNat < 4096 ∧ a0.toNat < 4096
     omega
    have hseal := HSpec.sealed_of (x := inHd a0 a1 r kids) ok (b := body (P - 16) (fixedB (stripped seps).1 high) (cellsOf (kids.map Int.toNat) (stripped seps).2)) hP (by omega)
    have e1 : ((inHd a0 a1 r kids).l : Int) = a1 := by show ((a1.toNat : Nat) : Int) = a1; omega
    have e2 : ((inHd a0 a1 r kids).r : Int) = r := by show ((r.toNat : Nat) : Int) = r; omega
    have e3 : ((inHd a0 a1 r kids).s : Int) = a0 := by show ((a0.toNat : Nat) : Int) = a0; omega
    rw [e1, e2, e3] at hseal
    refine ev_bind (ev_eq (HSpec.seal_ev 3 a1 (kids.length : Int) r a0 (body (P - 16) (fixedB (stripped seps).1 high) (cellsOf (kids.map Int.toNat) (stripped seps).2)) (P : Int)) hseal) (ev_some' rfl)
   ·
    rw [if_neg hf, packed_much (room := P - 16) (f := (fixedB (stripped seps).1 high)) (cs := (cellsOf (kids.map Int.toNat) (stripped seps).2)) (by rw [hneed]; omega) (by omega)]
    exact ev_neg (by decide) (ev_some' rfl)
  ·
   rw [if_neg hm]
   exact ev_neg hm (ev_some' rfl)
 ·
  rw [if_neg hd]
  exact ev_neg hd (ev_some' rfl)
def cut60 (s : ByteArray) : ByteArray := s.extract 0 (min s.size 60)
def cutAll (l : List ByteArray) : List ByteArray := (l.take 30).map cut60
theorem mn60 (s : ByteArray) : (mn (s.size : Int) 60).toNat = min s.size 60 := by rw [mn_eq]; omega
theorem cut30_loop (l : List ByteArray) : ∀ (d i : Nat) (acc : List ByteArray), i ≤ 30 → i ≤ l.length → acc.length = i → min l.length 30 - i = d →
  Ev (fun k => withylaw05_Cut.l0 k l acc (i : Int)) (acc ++ ((l.take 30).drop i).map cut60) := by
 intro d
 induction d with
 | zero =>
  intro i acc h1 h2 ha hd
  refine ev_step ?_
  simp only [withylaw05_Cut.l0]
  rw [List.drop_of_length_le (by simp <;> omega), List.map_nil, List.append_nil]
  by_cases h : i < l.length
  ·
   exact ev_pos (by omega) (ev_neg (by omega) ev_some)
  ·
   exact ev_neg (by omega) ev_some
 | succ d ih =>
  intro i acc h1 h2 ha hd
  have hi : i < l.length := by omega
  have hi' : i < (l.take 30).length := by simp; omega
  refine ev_step ?_
  simp only [withylaw05_Cut.l0]
  rw [rdOf_nat _ l i hi, mn60]
  have hm := mn_eq (l[i].size : Int) 60
  refine ev_pos (by omega) (ev_pos (by omega) (ev_pos (by omega) (ev_pos (by omega) (ev_pos (by omega) (ev_pos (by omega) ?_)))))
  rw [w64_succ (by omega)]
  refine ev_eq (ih (i + 1) _ (by omega) (by omega) (by simp <;> omega) (by omega)) ?_
  rw [List.drop_eq_getElem_cons hi', List.map_cons, List.append_assoc, List.getElem_take]
  rfl
theorem cut_ev (l : List ByteArray) : Ev (fun k => withylaw05_Cut.f k l) (cutAll l) := by
 unfold withylaw05_Cut.f
 refine ev_eq (cut30_loop l _ 0 [] (Nat.zero_le _) (Nat.zero_le _) rfl rfl) ?_
 rw [List.drop_zero, List.nil_append]
 rfl
def cut140 (s : ByteArray) : ByteArray := s.extract 0 (min s.size 140)
def cutSeps (l : List ByteArray) : List ByteArray := match l with | [] => [] | s :: r => cut140 s :: (r.take 29).map cut60
theorem mn140 (s : ByteArray) : (mn (s.size : Int) 140).toNat = min s.size 140 := by rw [mn_eq]; omega
theorem cutSeps_length (l : List ByteArray) : (cutSeps l).length ≤ 30 := by
 cases l with
 | nil => exact Nat.zero_le _
 | cons s r => simp [cutSeps]; omega
theorem icut_ev (a0 a1 a2 : Int) (a3 : ByteArray) (l4 : List Int) (l5 : List ByteArray) : Ev (fun k => withylaw11_Cut.f k a0 a1 a2 a3 l4 l5) (a0, a1, a2, cut140 a3, l4.take 30, cutSeps l5) := by
 have h1 := mn_eq (a3.size : Int) 140
 have h2 := mn_eq (l4.length : Int) 30
 have e2 : l4.take ((mn (l4.length : Int) 30) : Int).toNat = l4.take 30 := by
  rw [show ((mn (l4.length : Int) 30) : Int).toNat = min l4.length 30 by omega]
  rcases Nat.le_total l4.length 30 with h | h
  ·
   rw [Nat.min_eq_left h, List.take_of_length_le (Nat.le_refl _), List.take_of_length_le h]
  ·
   rw [Nat.min_eq_right h]
 unfold withylaw11_Cut.f
 rw [e2, mn140]
 refine ev_pos (by omega) (ev_pos (by omega) (ev_bind_now rfl (ev_pos (by omega) (ev_pos (by omega) (ev_pos (by simp; omega) (ev_bind_now rfl (ev_bind (cut_ev l5) ?_)))))))
 cases l5 with
 | nil => exact ev_neg (by simp) (ev_some' rfl)
 | cons s r =>
  have h3 := mn_eq (s.size : Int) 140
  rw [rdOf_zero, mn140]
  refine ev_pos (by simp) (ev_pos (by simp) (ev_pos (by omega) (ev_pos (by omega) (ev_pos (by simp [cutAll]) (ev_some' ?_)))))
  rfl
set_option maxRecDepth 100000 in
theorem ifixed_ev : Ev (fun k => withylaw11_fixed.f k) true := Ev.of withylaw11_fixed.mono (k := 200) (by decide +kernel)
theorem ifin_ev : Ev (fun k => (withylaw11_fixed.f k).bind fun t => some t) true := ev_bind ifixed_ev ev_some
end Go.Proofs.YtafebmhmcdnhkaaGreat.Spec
namespace Go.Proofs.YtafebmhmcdnhkaaGreat.HSpec
open Go.RowKit Go.Proofs.YtafebmhmcdnhkaaGreatW.PrintWords Go.Proofs.YtafebmhmcdnhkaaGreatW.PrintLast Go.Proofs.YtafebmhmcdnhkaaGreatW.PrintMore Go.Proofs.YtafebmhmcdnhkaaGreatEv Go.Proofs.YtafebmhmcdnhkaaGreatSum Go.Proofs.YtafebmhmcdnhkaaGreatHead Go.Proofs.YtafebmhmcdnhkaaGreat.P
theorem bt_getD (s : ByteArray) (i : Nat) : bt s (i : Int) = (((L s).getD i 0).toNat : Int) := by
 rcases Nat.lt_or_ge i (L s).length with h | h
 ·
  rw [bt_L s i h, List.getD_eq_getElem?_getD, List.getElem?_eq_getElem h]
  rfl
 ·
  have hl := L_length s
  unfold bt
  rw [dif_neg (by rw [Int.toNat_natCast]; omega), List.getD_eq_getElem?_getD, List.getElem?_eq_none h]
  rfl
theorem or_at (x b e : Nat) (hx : x < 2 ^ e) (hb : b < 256) (he : e ≤ 24) : Go.bits .or .u32 (x : Int) (shl .u32 ((b : Int) % 4294967296) (e : Int)) = ((x + b * 2 ^ e : Nat) : Int) := by
 have hp : 2 ^ e ≤ 2 ^ 24 := Nat.pow_le_pow_right (by omega) he
 have hm : b * 2 ^ e ≤ 255 * 2 ^ 24 := Nat.mul_le_mul (by omega) hp
 have hw : shl .u32 ((b : Int) % 4294967296) (e : Int) = ((b * 2 ^ e : Nat) : Int) := by
  unfold shl
  have hb32 : IntKind.u32.bits = 32 := rfl
  rw [IntKind.wrap_u32', Int.toNat_natCast, hb32, Nat.min_eq_left (by omega), show (b : Int) % 4294967296 = (b : Int) by omega]
  have e1 : (b : Int) * 2 ^ e = ((b * 2 ^ e : Nat) : Int) := by rw [Int.natCast_mul, Int.natCast_pow]; rfl
  rw [e1]
  omega
 rw [hw, u32_or_nat _ _ (by omega) (by omega)]
 have := Nat.two_pow_add_eq_or_of_lt hx b
 rw [Nat.mul_comm b, Nat.or_comm, ← this]
 exact congrArg _ (Nat.add_comm _ _)
theorem getD_drop (l : List UInt8) (i j : Nat) : (l.drop i).getD j 0 = l.getD (i + j) 0 := by simp [List.getD_eq_getElem?_getD, List.getElem?_drop]
theorem read_ev (s : ByteArray) (i : Nat) (h : i + 4 ≤ s.size) (hs : s.size ≤ 140737488300000) : Ev (fun k => word_Read.f k s (i : Int)) ((rd4 ((L s).drop i) : Int), 0) := by
 have hl := L_length s
 unfold word_Read.f
 refine ev_neg (by omega) (ev_step ?_)
 simp only [word_Read.j0]
 refine ev_neg (by simp; omega) (ev_neg (by rw [w64 (by omega) (by omega)]; omega) ?_)
 have b0 := u8_lt ((L s).getD i 0)
 have b1 := u8_lt ((L s).getD (i + 1) 0)
 have b2 := u8_lt ((L s).getD (i + 2) 0)
 have b3 := u8_lt ((L s).getD (i + 3) 0)
 refine ev_step ?_
 simp only [word_Read.l0]
 rw [show wrap64 ((i : Int) + 0) = (i : Int) by rw [w64 (by omega) (by omega)]; omega, show wrap64 (8 * 0) = ((0 : Nat) : Int) by unfold wrap64; omega, bt_getD, show (0 : Int) = ((0 : Nat) : Int) from rfl, or_at 0 _ 0 (by omega) b0 (by omega)]
 refine ev_pos (by omega) (ev_pos (by omega) (ev_pos (by omega) (ev_pos (by omega) (ev_step ?_))))
 simp only [word_Read.l0]
 rw [show wrap64 ((i : Int) + wrap64 (((0 : Nat) : Int) + 1)) = ((i + 1 : Nat) : Int) by rw [w64 (x := ((0 : Nat) : Int) + 1) (by omega) (by omega), w64 (by omega) (by omega)]; omega, show wrap64 (8 * wrap64 (((0 : Nat) : Int) + 1)) = ((8 : Nat) : Int) by unfold wrap64; omega, bt_getD, or_at _ _ 8 (by omega) b1 (by omega)]
 refine ev_pos (by unfold wrap64; omega) (ev_pos (by omega) (ev_pos (by omega) (ev_pos (by omega) (ev_step ?_))))
 simp only [word_Read.l0]
 rw [show wrap64 (wrap64 (((0 : Nat) : Int) + 1) + 1) = 2 by unfold wrap64; omega, show wrap64 ((i : Int) + 2) = ((i + 2 : Nat) : Int) by rw [w64 (by omega) (by omega)]; omega, show wrap64 (8 * 2) = ((16 : Nat) : Int) by unfold wrap64; omega, bt_getD, or_at _ _ 16 (by omega) b2 (by omega)]
 refine ev_pos (by omega) (ev_pos (by omega) (ev_pos (by omega) (ev_pos (by omega) (ev_step ?_))))
 simp only [word_Read.l0]
 rw [show wrap64 (2 + 1) = 3 by unfold wrap64; omega, show wrap64 ((i : Int) + 3) = ((i + 3 : Nat) : Int) by rw [w64 (by omega) (by omega)]; omega, show wrap64 (8 * 3) = ((24 : Nat) : Int) by unfold wrap64; omega, bt_getD, or_at _ _ 24 (by omega) b3 (by omega)]
 refine ev_pos (by omega) (ev_pos (by omega) (ev_pos (by omega) (ev_pos (by omega) (ev_step ?_))))
 simp only [word_Read.l0]
 refine ev_neg (by unfold wrap64; omega) (ev_some' ?_)
 unfold rd4
 rw [getD_drop, getD_drop, getD_drop, getD_drop]
 refine Prod.ext ?_ rfl
 simp only [Nat.add_zero]
 omega
def none' : Opened := (0, 0, 0, 0, 0, ⟨#[]⟩, 3)
def told (x : Hd) (b : ByteArray) : Opened := (x.k, x.l, x.c, x.r, x.s, b, 0)
def body (s : ByteArray) : ByteArray := s.extract 16 s.size
def isPage (s : ByteArray) : Prop := Size s.size ∧ (got (L s)).ok ∧ page (got (L s)) (L (body s)) s.size = L s
instance (s : ByteArray) : Decidable (isPage s) := by
 unfold isPage Size Hd.ok
 infer_instance
def opened (s : ByteArray) : Opened := if isPage s then told (got (L s)) (body s) else none'
theorem body_L (s : ByteArray) : L (body s) = (L s).drop 16 := L_from s 16
theorem body_size {s : ByteArray} (h : 16 ≤ s.size) : (body s).size + 16 = s.size := by unfold body; rw [size_extract]; omega
theorem opened_page {s : ByteArray} (h : isPage s) : opened s = told (got (L s)) (body s) := if_pos h
theorem opened_none {s : ByteArray} (h : ¬ isPage s) : opened s = none' := if_neg h
theorem size16 {n : Nat} (h : Size n) : 128 ≤ n ∧ n ≤ 1024 := by unfold Size at h; omega
theorem sealed_got {s : ByteArray} (hs : Size s.size) : (isPage s ∧ sealed (got (L s)).k (got (L s)).l (got (L s)).c (got (L s)).r (got (L s)).s (body s) s.size = (s, 0)) ∨
  (¬ isPage s ∧ ((sealed (got (L s)).k (got (L s)).l (got (L s)).c (got (L s)).r (got (L s)).s (body s) s.size).2 ≠ 0 ∨ L (sealed (got (L s)).k (got (L s)).l (got (L s)).c (got (L s)).r (got (L s)).s (body s) s.size).1 ≠ L s)) := by
 have h16 := size16 hs
 have hb := body_size (s := s) (by omega)
 by_cases ok : (got (L s)).ok
 ·
  rw [sealed_of ok hs (by omega)]
  by_cases hp : page (got (L s)) (L (body s)) s.size = L s
  ·
   refine .inl ⟨⟨hs, ok, hp⟩, Prod.ext (L_inj ?_) rfl⟩
   rw [pageB_L, hp]
  ·
   refine .inr ⟨fun h => hp h.2.2, .inr ?_⟩
   rw [pageB_L]
   exact hp
 ·
  refine .inr ⟨fun h => ok h.2.1, .inl ?_⟩
  unfold sealed
  by_cases hc : head_may.code (got (L s)).k (got (L s)).l (got (L s)).c (got (L s)).r (got (L s)).s (body s) s.size = 0
  ·
   exfalso
   obtain ⟨x, P, ok', e1, e2, e3, e4, e5, _⟩ := code_zero hc
   apply ok
   unfold Hd.ok at ok' ⊢
   omega
  ·
   rw [if_neg hc]
   exact hc
theorem open_ev (s : ByteArray) (hsz : s.size ≤ 140737488300000) : Ev (fun k => head_Open.f k s) (opened s) := by
 have hl := L_length s
 unfold head_Open.f
 have hds : disk_Size.f (s.size : Int) = some (head_may.sized (s.size : Int)) := rfl
 refine ev_bind_now hds ?_
 by_cases h1 : head_may.sized (s.size : Int) = true
 ·
  have h1' := (sized_iff _).1 h1
  have hs : Size s.size := by unfold Size; omega
  have h16 := size16 hs
  refine ev_pos h1 (ev_bind (read_ev s 4 (by omega) (by omega)) (ev_bind (read_ev s 8 (by omega) (by omega)) (ev_pos (by omega) (ev_pos (by omega) (ev_pos (by omega) (ev_pos (by omega) (ev_pos (by omega) ?_)))))))
  have b0 := u8_lt ((L s).getD 0 0)
  have b1 := u8_lt ((L s).getD 1 0)
  have b2 := u8_lt ((L s).getD 2 0)
  have b3 := u8_lt ((L s).getD 3 0)
  have hr : ∀ l : List UInt8, rd4 l < 4294967296 := fun l => by
   have q0 := u8_lt (l.getD 0 0)
   have q1 := u8_lt (l.getD 1 0)
   have q2 := u8_lt (l.getD 2 0)
   have q3 := u8_lt (l.getD 3 0)
   unfold rd4
   omega
  have hr4 := hr ((L s).drop 4)
  have hr8 := hr ((L s).drop 8)
  have t0 : bt s 0 = _ := bt_getD s 0
  have t1 : bt s 1 = _ := bt_getD s 1
  have t2 : bt s 2 = _ := bt_getD s 2
  have t3 : bt s 3 = _ := bt_getD s 3
  rw [t0, t1, t2, t3, w64 (x := (((L s).getD 0 0).toNat : Int)) (by omega) (by omega), w64 (x := (((L s).getD 1 0).toNat : Int)) (by omega) (by omega), w64 (x := (((L s).getD 2 0).toNat : Int)) (by omega) (by omega), w64 (x := (((L s).getD 3 0).toNat : Int)) (by omega) (by omega), w64 (x := 256 * (((L s).getD 3 0).toNat : Int)) (by omega) (by omega), w64 (x := (((L s).getD 2 0).toNat : Int) + 256 * (((L s).getD 3 0).toNat : Int)) (by omega) (by omega), w64 (x := (rd4 ((L s).drop 4) : Int)) (by omega) (by omega), w64 (x := (rd4 ((L s).drop 8) : Int)) (by omega) (by omega)]
  have ec : (((L s).getD 2 0).toNat : Int) + 256 * (((L s).getD 3 0).toNat : Int) = ((got (L s)).c : Int) := by
   show _ = ((((L s).getD 2 0).toNat + 256 * ((L s).getD 3 0).toNat : Nat) : Int)
   omega
  rw [ec]
  refine ev_bind (seal_ev (got (L s)).k (got (L s)).l (got (L s)).c (got (L s)).r (got (L s)).s (body s) s.size) ?_
  rcases sealed_got hs with ⟨hp, e⟩ | ⟨hp, e⟩
  ·
   rw [e, opened_page hp]
   exact ev_pos rfl (ev_pos rfl (ev_some' rfl))
  ·
   rw [opened_none hp]
   by_cases h2 : (sealed (got (L s)).k (got (L s)).l (got (L s)).c (got (L s)).r (got (L s)).s (body s) s.size).2 = 0
   ·
    rcases e with e | e
    ·
     exact absurd h2 e
    ·
     exact ev_pos h2 (ev_neg (by rw [L_toList, L_toList]; exact e) (ev_some' rfl))
   ·
    exact ev_neg h2 (ev_some' rfl)
 ·
  rw [opened_none (fun h => h1 ((sized_iff _).2 (by have := h.1; unfold Size at this; omega)))]
  exact ev_neg h1 (ev_some' rfl)
theorem isPage_of {x : Hd} (ok : x.ok) {b : List UInt8} {P : Nat} (hP : Size P) (hb : b.length + 16 ≤ P) : isPage (pageB x b P) := by
 have hz := pageB_size (h := x) hb
 refine ⟨by rw [hz]; exact hP, ?_, ?_⟩
 ·
  rw [pageB_L, got_page ok]
  exact ok
 ·
  rw [body_L, pageB_L, got_page ok, page_drop, hz]
  exact page_of_rest (rest_rest hb)
theorem opened_of {x : Hd} (ok : x.ok) {b : List UInt8} {P : Nat} (hP : Size P) (hb : b.length + 16 ≤ P) : opened (pageB x b P) = told x ⟨(rest b P).toArray⟩ := by
 rw [opened_page (isPage_of ok hP hb), pageB_L, got_page ok]
 refine congrArg (told x) (L_inj ?_)
 rw [body_L, pageB_L, page_drop, L_mk]
end Go.Proofs.YtafebmhmcdnhkaaGreat.HSpec
namespace Go.Proofs.YtafebmhmcdnhkaaGreat.Spec
open Go.RowKit Go.Proofs.YtafebmhmcdnhkaaGreatW.PrintWords Go.Proofs.YtafebmhmcdnhkaaGreatW.PrintLast Go.Proofs.YtafebmhmcdnhkaaGreatW.PrintMore Go.Proofs.YtafebmhmcdnhkaaGreatEv Go.Proofs.YtafebmhmcdnhkaaGreatSlot Go.Proofs.YtafebmhmcdnhkaaGreat.P
theorem bt_getD (s : ByteArray) (i : Nat) (h : i < s.size) : bt s (i : Int) = (((L s).getD i 0).toNat : Int) := by
 have h' : i < (L s).length := by rw [L_length]; exact h
 rw [bt_L s i h', List.getD_eq_getElem?_getD, List.getElem?_eq_getElem h']
 rfl
theorem at_eq (b : ByteArray) (i : Nat) (h : 2 * (i + 1) ≤ b.size) (hb : b.size ≤ 65535) : slot_at.f b (i : Int) = some (ent (L b) i : Int) := by
 unfold slot_at.f
 rw [w64 (x := (i : Int) + 1) (by omega) (by omega), w64 (x := 2 * _) (by omega) (by omega), w64 (x := (b.size : Int) - _) (by omega) (by omega), w64 (x := (b.size : Int) - 2 * ((i : Int) + 1) + 1) (by omega) (by omega)]
 rw [if_pos (by omega), if_pos (by omega), if_pos (by omega), if_pos (by omega)]
 rw [show (b.size : Int) - 2 * ((i : Int) + 1) = ((b.size - 2 * (i + 1) : Nat) : Int) by omega, show ((b.size - 2 * (i + 1) : Nat) : Int) + 1 = ((b.size - 2 * (i + 1) + 1 : Nat) : Int) by omega, bt_getD _ _ (by omega), bt_getD _ _ (by omega)]
 refine congrArg some ?_
 unfold ent
 rw [L_length]
 have h1 := ((L b).getD (b.size - 2 * (i + 1)) 0).toNat_lt
 have h2 := ((L b).getD (b.size - 2 * (i + 1) + 1) 0).toNat_lt
 rw [w64 (x := (((L b).getD (b.size - 2 * (i + 1)) 0).toNat : Int)) (by omega) (by omega), w64 (x := (((L b).getD (b.size - 2 * (i + 1) + 1) 0).toNat : Int)) (by omega) (by omega), w64 (x := _ * 256) (by omega) (by omega), w64 (by omega) (by omega)]
 omega
def readOf (b : ByteArray) (f d i : Nat) (acc : List ByteArray) : List ByteArray × Int :=
 match cuts b d i acc with
 | none => ([], 3)
 | some cs => if packed (b.size : Int) (b.extract 0 f) cs = (b, 0) then (cs, 0) else ([], 3)
theorem need_small (b : ByteArray) (hb : b.size ≤ 65535) (f : ByteArray) (hf : f.size ≤ 65535) (cs : List ByteArray) (hl : cs.length ≤ 65535) (hs : ∀ c ∈ cs, c.size ≤ b.size) : need f cs ≤ 140737488300000 := by
 have hn : need f cs = f.size + (cat cs).length + 2 * (cs.length + 1) := rfl
 have h := cat_length_le 65535 cs (fun c hc => by have := hs c hc; omega)
 have : cs.length * 65535 ≤ 65535 * 65535 := Nat.mul_le_mul_right _ hl
 omega
theorem read_end {b : ByteArray} {P : Nat → Option (ByteArray × Int)} {p : ByteArray × Int} {cs : List ByteArray} (hP : Ev P p) : Ev (fun k => (P k).bind fun bt139 => (if bt139.2 = 0 then (if bt139.1.toList = b.toList then (some (cs, (0 : Int))) else (some (([] : List ByteArray), 3))) else (some (([] : List ByteArray), 3)))) (if p = (b, 0) then (cs, 0) else ([], 3)) := by
 refine ev_bind hP ?_
 simp only [L_toList]
 by_cases h2 : p.2 = 0
 ·
  by_cases h1 : L p.1 = L b
  ·
   rw [if_pos (Prod.ext (L_inj h1) h2)]
   exact ev_pos h2 (ev_pos h1 ev_some)
  ·
   rw [if_neg (fun h : p = (b, 0) => h1 (by rw [h]))]
   exact ev_pos h2 (ev_neg h1 ev_some)
 ·
  rw [if_neg (fun h : p = (b, 0) => h2 (by rw [h]))]
  exact ev_neg h2 ev_some
theorem unpack_loop (b : ByteArray) (hb : b.size ≤ 65535) (f m : Nat) (hf : f ≤ b.size) (hm : 2 * (m + 1) ≤ b.size) : ∀ (d i : Nat) (acc : List ByteArray), i ≤ m → m - i = d → acc.length = i → (∀ c ∈ acc, c.size ≤ b.size) →
  Ev (fun k => slot_Unpack.l0 k b (f : Int) (m : Int) acc (i : Int)) (readOf b f d i acc) := by
 intro d
 induction d with
 | zero =>
  intro i acc h1 hd hl hs
  refine ev_step ?_
  simp only [slot_Unpack.l0, Int.toNat_natCast]
  refine ev_neg (by omega) (ev_pos (by omega) (ev_pos (by omega) ?_))
  have hfs : (b.extract 0 f).size = f := by rw [size_extract]; omega
  exact read_end (pack_ev _ _ _ (need_small b hb _ (by omega) acc (by omega) hs))
 | succ d ih =>
  intro i acc h1 hd hl hs
  refine ev_step ?_
  simp only [slot_Unpack.l0]
  rw [w64_succ (by omega)]
  refine ev_pos (by omega) (ev_bind_now (at_eq b i (by omega) hb) (ev_bind_now (at_eq b (i + 1) (by omega) hb) ?_))
  unfold readOf cuts
  by_cases c1 : ent (L b) i > ent (L b) (i + 1)
  ·
   rw [if_pos c1]
   exact ev_pos (by omega) ev_some
  ·
   rw [if_neg c1]
   refine ev_neg (by omega) ?_
   by_cases c2 : ent (L b) (i + 1) > b.size
   ·
    rw [if_pos c2]
    exact ev_pos (by omega) ev_some
   ·
    rw [if_neg c2]
    refine ev_neg (by omega) (ev_pos (by omega) (ev_pos (by omega) ?_))
    rw [Int.toNat_natCast, Int.toNat_natCast]
    refine ih (i + 1) _ (by omega) (by omega) (by simp <;> omega) (fun c hc => ?_)
    rcases List.mem_append.1 hc with hc | hc
    ·
     exact hs c hc
    ·
     obtain rfl := List.mem_singleton.1 hc
     rw [size_extract]
     omega
theorem unpack_ev (b : ByteArray) (f m : Int) : Ev (fun k => slot_Unpack.f k b f m) (unpacked b f m) := by
 unfold slot_Unpack.f unpacked
 by_cases c1 : f < 0
 ·
  rw [if_pos (.inl c1)]
  exact ev_pos c1 ev_some
 refine ev_neg c1 ?_
 by_cases c2 : m < 0
 ·
  rw [if_pos (.inr (.inl c2))]
  exact ev_pos c2 ev_some
 refine ev_neg c2 ?_
 by_cases c3 : (b.size : Int) > 65535
 ·
  rw [if_pos (.inr (.inr c3))]
  exact ev_pos c3 ev_some
 rw [if_neg (by omega)]
 refine ev_neg c3 ?_
 by_cases c4 : f > (b.size : Int)
 ·
  rw [if_pos (.inl c4)]
  exact ev_pos c4 ev_some
 refine ev_neg c4 ?_
 by_cases c5 : m > (b.size : Int) / 2 - 1
 ·
  rw [if_pos (.inr c5)]
  exact ev_pos c5 ev_some
 rw [if_neg (by omega)]
 refine ev_neg c5 ?_
 obtain ⟨f, rfl⟩ := Int.eq_ofNat_of_zero_le (show 0 ≤ f by omega)
 obtain ⟨m, rfl⟩ := Int.eq_ofNat_of_zero_le (show 0 ≤ m by omega)
 rw [Int.toNat_natCast, Int.toNat_natCast]
 exact unpack_loop b (by omega) f m (by omega) (by omega) m 0 [] (Nat.zero_le _) rfl rfl (fun c hc => by cases hc)
open Go.Proofs.YtafebmhmcdnhkaaGreatMath Go.Proofs.YtafebmhmcdnhkaaGreatW.Abbr
theorem put_l1 (n : Int) (m : Nat) (hm : m ≤ 8) : ∀ (d i : Nat) (acc : List Int), i + d = m → acc.length ≤ i + 1 → ∃ b, Ev (fun k => word_Put.l1 k n (m : Int) acc (m : Int) (i : Int)) b
 | 0, i, acc, hi, ha => ⟨strOfNums acc, by
  refine ev_step ?_
  simp only [word_Put.l1]
  exact ev_neg (by omega) ev_some⟩
 | d + 1, i, acc, hi, ha => by
  obtain ⟨b, hb⟩ := put_l1 n m hm d (i + 1) (acc ++ [(shr .u64 n (wrap64 (8 * (wrap64 ((wrap64 ((m : Int) - 1)) - (i : Int)))))) % 256]) (by omega) (by rw [List.length_append]; simp; omega)
  refine ⟨b, ?_⟩
  refine ev_step ?_
  simp only [word_Put.l1]
  rw [w64_succ (by omega)]
  exact ev_pos (by omega) (ev_pos (by unfold wrap64; omega) (ev_pos (by omega) hb))
theorem put_j1 (n : Int) (m : Nat) (hm : m ≤ 8) : ∃ b, Ev (fun k => word_Put.j1 k n (m : Int)) b := by
 obtain ⟨b, hb⟩ := put_l1 n m hm m 0 ([(wrap64 (247 + (m : Int))) % 256] : List Int) (by omega) (by simp)
 refine ⟨b, ev_step ?_⟩
 simp only [word_Put.j1]
 exact hb
theorem put_l0 (n : Int) : ∀ (d m : Nat), m + d = 8 → 3 ≤ m → ∃ b, Ev (fun k => word_Put.l0 k n (m : Int)) b
 | 0, m, hm, h3 => by
  obtain ⟨b, hb⟩ := put_j1 n m (by omega)
  refine ⟨b, ev_step ?_⟩
  simp only [word_Put.l0]
  exact ev_neg (by omega) hb
 | d + 1, m, hm, h3 => by
  obtain ⟨b, hb⟩ := put_j1 n m (by omega)
  obtain ⟨c, hc⟩ := put_l0 n d (m + 1) (by omega) (by omega)
  by_cases hs : (shr .u64 n (wrap64 (8 * (m : Int)))) > 0
  ·
   refine ⟨c, ev_step ?_⟩
   simp only [word_Put.l0]
   rw [w64_succ (by omega)]
   exact ev_pos (by omega) (ev_pos (by unfold wrap64; omega) (ev_pos hs hc))
  ·
   refine ⟨b, ev_step ?_⟩
   simp only [word_Put.l0]
   exact ev_pos (by omega) (ev_pos (by unfold wrap64; omega) (ev_neg hs hb))
theorem put_tot (n : Int) : ∃ b, Ev (fun k => word_Put.f k n) b := by
 unfold word_Put.f
 by_cases h1 : n ≤ 240
 ·
  exact ⟨_, ev_pos h1 ev_some⟩
 by_cases h2 : n ≤ 2287
 ·
  exact ⟨_, ev_neg h1 (ev_pos h2 ev_some)⟩
 by_cases h3 : n ≤ 67823
 ·
  exact ⟨_, ev_neg h1 (ev_neg h2 (ev_pos h3 ev_some))⟩
 obtain ⟨b, hb⟩ := put_l0 n 5 3 (by omega) (by omega)
 exact ⟨b, ev_neg h1 (ev_neg h2 (ev_neg h3 hb))⟩
theorem wrap_nn (n : Int) : 0 ≤ IntKind.u64.wrap n := by rw [IntKind.wrap_u64]; omega
theorem bits_nn (x y : Int) : 0 ≤ Go.bits .or .u64 x y := wrap_nn _
theorem bt_range (s : ByteArray) (i : Nat) (h : i < s.size) : 0 ≤ bt s (i : Int) ∧ bt s (i : Int) ≤ 255 := by
 have h' : i < (L s).length := by rw [L_length]; exact h
 rw [bt_L s i h']
 have := ((L s)[i]).toNat_lt
 omega
def mored (c : Int) : Nat := if c > 249 then (c - 247).toNat else if c = 249 then 2 else if c ≥ 241 then 1 else 0
theorem mored_le {c : Int} (h : c ≤ 255) : mored c ≤ 8 := by unfold mored; (repeat' split) <;> omega
theorem more_eq {c : Int} (h0 : 0 ≤ c) (h : c ≤ 255) : word_more.f c = some (mored c : Int) := by
 unfold word_more.f mored
 rw [w64 (x := c) (by omega) (by omega), w64 (x := c - 247) (by omega) (by omega)]
 (repeat' split) <;> first | rfl | (refine congrArg some ?_; omega)
theorem get_end (s : ByteArray) (hs : s.size ≤ 140737488300000) (i m : Nat) (h : i + 1 + m ≤ s.size) (n : Int) (hn : 0 ≤ n) : ∃ r : Int × Int × Int, Ev (fun k => (word_Put.f k n).bind fun t264 => (if (i : Int) ≤ (wrap64 ((wrap64 ((i : Int) + 1)) + (m : Int))) then (if (wrap64 ((wrap64 ((i : Int) + 1)) + (m : Int))) ≤ (s.size : Int) then (if t264.toList = (s.extract ((i : Int)).toNat ((wrap64 ((wrap64 ((i : Int) + 1)) + (m : Int))) : Int).toNat).toList then (some (n, wrap64 ((wrap64 ((i : Int) + 1)) + (m : Int)), 0)) else (some (0, 0, 3))) else (none)) else (none))) r ∧ (r.2.2 = 0 → (i : Int) < r.2.1 ∧ r.2.1 ≤ s.size ∧ 0 ≤ r.1) := by
 obtain ⟨b, hb⟩ := put_tot n
 have e : wrap64 ((wrap64 ((i : Int) + 1)) + (m : Int)) = ((i + 1 + m : Nat) : Int) := by rw [w64_succ (by omega), w64 (by omega) (by omega)]; omega
 rw [e]
 by_cases hc : b.toList = (s.extract ((i : Int)).toNat ((i + 1 + m : Nat) : Int).toNat).toList
 ·
  exact ⟨(n, ((i + 1 + m : Nat) : Int), 0), ev_bind hb (ev_pos (by omega) (ev_pos (by omega) (ev_pos hc ev_some))), fun _ => ⟨by simp only; omega, by simp only; omega, hn⟩⟩
 ·
  exact ⟨(0, 0, 3), ev_bind hb (ev_pos (by omega) (ev_pos (by omega) (ev_neg hc ev_some))), fun h => absurd h (by decide)⟩
theorem get_loop (s : ByteArray) (hs : s.size ≤ 140737488300000) (i m : Nat) (h : i + 1 + m ≤ s.size) (hm : m ≤ 8) : ∀ (d j : Nat) (n : Int), j + d = m → 0 ≤ n → ∃ r : Int × Int × Int, Ev (fun k => word_Get.l0 k s (i : Int) (m : Int) n (m : Int) (j : Int)) r ∧ (r.2.2 = 0 → (i : Int) < r.2.1 ∧ r.2.1 ≤ s.size ∧ 0 ≤ r.1)
 | 0, j, n, hj, hn => by
  by_cases m0 : (m : Int) = 0
  ·
   obtain ⟨r, h1, h2⟩ := get_end s hs i m h (IntKind.u64.wrap (bt s (i : Int))) (wrap_nn _)
   refine ⟨r, ev_step ?_, h2⟩
   simp only [word_Get.l0]
   exact ev_neg (by omega) (ev_pos (by omega) (ev_pos (by omega) (ev_pos m0 h1)))
  by_cases m1 : (m : Int) = 1
  ·
   obtain ⟨r, h1, h2⟩ := get_end s hs i m h (IntKind.u64.wrap (n + (240 + ((((bt s (i : Int)) - 241) % 256) * 256)))) (wrap_nn _)
   refine ⟨r, ev_step ?_, h2⟩
   simp only [word_Get.l0]
   exact ev_neg (by omega) (ev_pos (by omega) (ev_pos (by omega) (ev_neg m0 (ev_pos m1 h1))))
  by_cases m2 : (m : Int) = 2
  ·
   obtain ⟨r, h1, h2⟩ := get_end s hs i m h (IntKind.u64.wrap (n + 2288)) (wrap_nn _)
   refine ⟨r, ev_step ?_, h2⟩
   simp only [word_Get.l0]
   exact ev_neg (by omega) (ev_pos (by omega) (ev_pos (by omega) (ev_neg m0 (ev_neg m1 (ev_pos m2 h1)))))
  obtain ⟨r, h1, h2⟩ := get_end s hs i m h n hn
  refine ⟨r, ev_step ?_, h2⟩
  simp only [word_Get.l0]
  exact ev_neg (by omega) (ev_pos (by omega) (ev_pos (by omega) (ev_neg m0 (ev_neg m1 (ev_neg m2 h1)))))
 | d + 1, j, n, hj, hn => by
  obtain ⟨r, h1, h2⟩ := get_loop s hs i m h hm d (j + 1) (Go.bits .or .u64 (IntKind.u64.wrap (n * 256)) (IntKind.u64.wrap (bt s (wrap64 ((wrap64 ((i : Int) + 1)) + (j : Int)))))) (by omega) (bits_nn _ _)
  refine ⟨r, ev_step ?_, h2⟩
  simp only [word_Get.l0]
  have e : wrap64 ((wrap64 ((i : Int) + 1)) + (j : Int)) = ((i + 1 + j : Nat) : Int) := by rw [w64_succ (by omega), w64 (by omega) (by omega)]; omega
  rw [e] at h1 ⊢
  rw [w64_succ (i := j) (by omega)]
  exact ev_pos (by omega) (ev_pos (by omega) (ev_pos (by omega) h1))
theorem get_tot (s : ByteArray) (hs : s.size ≤ 140737488300000) (a : Int) : ∃ r : Int × Int × Int, Ev (fun k => word_Get.f k s a) r ∧ (r.2.2 = 0 → 0 ≤ r.2.1 ∧ r.2.1 ≤ s.size ∧ 0 ≤ r.1) := by
 unfold word_Get.f
 by_cases h0 : a < 0
 ·
  refine ⟨(0, 0, 4), ev_pos h0 (ev_step ?_), fun h => absurd h (by decide)⟩
  simp only [word_Get.j0]
  exact ev_pos (by simp) ev_some
 by_cases h1 : a > (s.size : Int)
 ·
  refine ⟨(0, 0, 4), ev_neg h0 (ev_step ?_), fun h => absurd h (by decide)⟩
  simp only [word_Get.j0]
  exact ev_pos (decide_eq_true h1) ev_some
 obtain ⟨i, rfl⟩ : ∃ i : Nat, a = (i : Int) := ⟨a.toNat, by omega⟩
 have hj0 : decide ((i : Int) > (s.size : Int)) = false := decide_eq_false h1
 rw [hj0]
 by_cases h2 : (i : Int) = (s.size : Int)
 ·
  refine ⟨(0, 0, 7), ev_neg h0 (ev_step ?_), fun h => absurd h (by decide)⟩
  simp only [word_Get.j0]
  refine ev_neg Bool.false_ne_true (ev_pos h2 (ev_step ?_))
  simp only [word_Get.j1]
  exact ev_pos (by simp) ev_some
 obtain ⟨b0, b1⟩ := bt_range s i (by omega)
 have hm := more_eq b0 b1
 have hml := mored_le b1
 by_cases h3 : wrap64 ((wrap64 ((s.size : Int) - (i : Int))) - 1) < (mored (bt s (i : Int)) : Int)
 ·
  refine ⟨(0, 0, 7), ev_neg h0 (ev_step ?_), fun h => absurd h (by decide)⟩
  simp only [word_Get.j0]
  refine ev_neg Bool.false_ne_true (ev_neg h2 (ev_pos (by omega) (ev_pos (by omega) (ev_bind_now hm (ev_step ?_)))))
  simp only [word_Get.j1]
  exact ev_pos (decide_eq_true h3) ev_some
 have h3' := h3
 rw [w64 (x := (s.size : Int) - (i : Int)) (by omega) (by omega), w64 (by omega) (by omega)] at h3'
 obtain ⟨r, e1, e2⟩ := get_loop s hs i (mored (bt s (i : Int))) (by omega) hml _ 0 0 (Nat.zero_add _) (Int.le_refl _)
 refine ⟨r, ev_neg h0 (ev_step ?_), fun h => by have := e2 h; omega⟩
 simp only [word_Get.j0]
 refine ev_neg Bool.false_ne_true (ev_neg h2 (ev_pos (by omega) (ev_pos (by omega) (ev_bind_now hm (ev_step ?_)))))
 simp only [word_Get.j1]
 exact ev_neg (by rw [decide_eq_false h3]; exact Bool.false_ne_true) (ev_pos (by omega) (ev_pos (by omega) (ev_bind_now hm e1)))
theorem get_small (s : ByteArray) (hs : s.size ≤ 140737488300000) (i n : Nat) (h : i < s.size) (hb : bt s (i : Int) = (n : Int)) (hn : n ≤ 240) : Ev (fun k => word_Get.f k s (i : Int)) ((n : Int), ((i + 1 : Nat) : Int), 0) := by
 have hm : word_more.f (bt s (i : Int)) = some ((0 : Nat) : Int) := by rw [hb, more_eq (by omega) (by omega)]; unfold mored; rw [if_neg (by omega), if_neg (by omega), if_neg (by omega)]
 unfold word_Get.f
 refine ev_neg (by omega) (ev_step ?_)
 simp only [word_Get.j0]
 refine ev_neg (by simp; omega) (ev_neg (by omega) (ev_pos (by omega) (ev_pos (by omega) (ev_bind_now hm (ev_step ?_)))))
 simp only [word_Get.j1]
 refine ev_neg (by rw [w64 (x := (s.size : Int) - (i : Int)) (by omega) (by omega), w64 (by omega) (by omega)]; simp; omega) (ev_pos (by omega) (ev_pos (by omega) (ev_bind_now hm (ev_step ?_))))
 simp only [word_Get.l0]
 have e : wrap64 ((wrap64 ((i : Int) + 1)) + ((0 : Nat) : Int)) = ((i + 1 : Nat) : Int) := by rw [w64_succ (by omega), w64 (by omega) (by omega)]; omega
 rw [e, hb]
 refine ev_neg (by omega) (ev_pos (by omega) (ev_pos (by omega) (ev_pos rfl (ev_bind (ev_all fun k => wput_small k n hn) (ev_pos (by omega) (ev_pos (by omega) (ev_pos ?_ (ev_some' ?_))))))))
 ·
  rw [L_toList, L_toList, L_extract]
  have h' : i < (L s).length := by rw [L_length]; exact h
  rw [bt_L s i h'] at hb
  rw [show ((i : Int)).toNat = i by omega, show ((i + 1 : Nat) : Int).toNat - i = 1 by omega, List.drop_eq_getElem_cons h']
  show [UInt8.ofNat n] = _
  rw [List.take_succ_cons, List.take_zero]
  refine congrArg (· :: []) ?_
  rw [← UInt8.toNat_inj]
  have : (UInt8.ofNat n).toNat = n % 256 := by simp
  omega
 ·
  rw [IntKind.wrap_u64]
  refine Prod.ext ?_ rfl
  show (n : Int) % 18446744073709551616 = (n : Int)
  omega
theorem text_tot (s : ByteArray) (hs : s.size ≤ 140737488300000) (a : Int) : ∃ (t : ByteArray) (e : Int), Ev (fun k => inner_text.f k s a) (t, e) ∧ (e = -1 ∨ (0 ≤ e ∧ e ≤ s.size)) ∧ t.size ≤ s.size := by
 obtain ⟨⟨n, tp, e⟩, h1, h2⟩ := get_tot s hs a
 unfold inner_text.f
 by_cases he : e = 0
 ·
  obtain ⟨p1, p2, p3⟩ := h2 he
  simp only at p1 p2 p3
  by_cases hn : n > IntKind.u64.wrap (wrap64 ((s.size : Int) - tp))
  ·
   exact ⟨⟨#[]⟩, -1, ev_bind h1 (ev_pos he (ev_pos hn ev_some)), .inl rfl, Nat.zero_le _⟩
  ·
   have hn' := hn
   rw [w64 (by omega) (by omega), IntKind.wrap_u64] at hn'
   have e1 : wrap64 n = n := w64 (by omega) (by omega)
   have e2 : wrap64 (tp + n) = tp + n := w64 (by omega) (by omega)
   refine ⟨s.extract tp.toNat (tp + n).toNat, tp + n, ev_bind h1 (ev_pos he (ev_neg hn ?_)), .inr ⟨by omega, by omega⟩, by rw [size_extract]; omega⟩
   simp only [e1, e2]
   exact ev_pos p1 (ev_pos (by omega) (ev_pos (by omega) ev_some))
 ·
  exact ⟨⟨#[]⟩, -1, ev_bind h1 (ev_neg he ev_some), .inl rfl, Nat.zero_le _⟩
theorem text_at (s : ByteArray) (hs : s.size ≤ 140737488300000) (i n : Nat) (h : i + 1 + n ≤ s.size) (hb : bt s (i : Int) = (n : Int)) (hn : n ≤ 240) : Ev (fun k => inner_text.f k s (i : Int)) (s.extract (i + 1) (i + 1 + n), ((i + 1 + n : Nat) : Int)) := by
 unfold inner_text.f
 have e1 : wrap64 (n : Int) = (n : Int) := w64 (by omega) (by omega)
 have e2 : wrap64 (((i + 1 : Nat) : Int) + (n : Int)) = ((i + 1 + n : Nat) : Int) := by rw [w64 (by omega) (by omega)]; omega
 refine ev_bind (get_small s hs i n (by omega) hb hn) (ev_pos rfl (ev_neg ?_ ?_))
 ·
  simp only
  rw [w64 (by omega) (by omega), IntKind.wrap_u64]
  omega
 ·
  simp only [e1, e2]
  exact ev_pos (by omega) (ev_pos (by omega) (ev_pos (by omega) (ev_some' rfl)))
theorem read_short (s : ByteArray) (hs : s.size < 4) : Ev (fun k => word_Read.f k s 0) (0, 7) := by
 unfold word_Read.f
 refine ev_neg (by omega) (ev_step ?_)
 simp only [word_Read.j0]
 exact ev_neg (by simp) (ev_pos (by rw [w64 (by omega) (by omega)]; omega) ev_some)
theorem four_tot (s : ByteArray) (hs : s.size ≤ 140737488300000) : ∃ (n a : Nat) (bad : Bool), Ev (fun k => cell_reader_four.f k s 0 false) ((n : Int), s, (a : Int), bad) ∧ n < 4096 ∧ a ≤ s.size := by
 unfold cell_reader_four.f
 by_cases h4 : s.size < 4
 ·
  exact ⟨0, 0, true, ev_bind (read_short s h4) (ev_neg (by decide) ev_some), by omega, by omega⟩
 ·
  have hr := HSpec.read_ev s 0 (by omega) hs
  by_cases hn : Go.Proofs.YtafebmhmcdnhkaaGreatHead.rd4 ((L s).drop 0) ≥ 4096
  ·
   exact ⟨0, 0, true, ev_bind hr (ev_pos rfl (ev_pos (by omega) ev_some)), by omega, by omega⟩
  ·
   refine ⟨Go.Proofs.YtafebmhmcdnhkaaGreatHead.rd4 ((L s).drop 0), 4, false, ev_bind hr (ev_pos rfl (ev_neg (by omega) (ev_some' ?_))), by omega, by omega⟩
   simp only
   rw [w64 (by omega) (by omega), show wrap64 (0 + 4) = ((4 : Nat) : Int) by unfold wrap64; omega]
theorem num_tot (s : ByteArray) (hs : s.size ≤ 140737488300000) (a : Nat) (ha : a ≤ s.size) (bad : Bool) : ∃ (n c : Nat) (bad' : Bool), Ev (fun k => cell_reader_number.f k s (a : Int) bad) ((n : Int), s, (c : Int), bad') ∧ n ≤ 4096 ∧ c ≤ s.size := by
 unfold cell_reader_number.f
 obtain ⟨⟨n, tp, e⟩, h1, h2⟩ := get_tot s hs (a : Int)
 by_cases he : e = 0
 ·
  obtain ⟨p1, p2, p3⟩ := h2 he
  simp only at p1 p2 p3
  by_cases hn : n > 4096
  ·
   exact ⟨0, a, true, ev_bind h1 (ev_pos he (ev_pos hn ev_some)), by omega, ha⟩
  ·
   refine ⟨n.toNat, tp.toNat, bad, ev_bind h1 (ev_pos he (ev_neg hn (ev_some' ?_))), by omega, by omega⟩
   simp only
   rw [w64 (by omega) (by omega), show ((n.toNat : Nat) : Int) = n by omega, show ((tp.toNat : Nat) : Int) = tp by omega]
 ·
  exact ⟨0, a, true, ev_bind h1 (ev_neg he ev_some), by omega, ha⟩
theorem take_tot (s : ByteArray) (hs : s.size ≤ 140737488300000) (a n : Nat) (ha : a ≤ s.size) (hn : n ≤ 4096) (bad : Bool) : ∃ (t : ByteArray) (x : ByteArray × Int × Bool), cell_reader_take.f s (a : Int) bad (n : Int) = some (t, x) ∧ t.size ≤ s.size := by
 unfold cell_reader_take.f
 cases bad with
 | true => exact ⟨_, _, by rw [if_pos rfl], Nat.zero_le _⟩
 | false =>
  rw [if_neg Bool.false_ne_true]
  by_cases h : (n : Int) > wrap64 ((s.size : Int) - (a : Int))
  ·
   exact ⟨_, _, by rw [if_pos h], Nat.zero_le _⟩
  ·
   rw [if_neg h]
   rw [w64 (by omega) (by omega)] at h
   rw [w64 (x := (a : Int) + (n : Int)) (by omega) (by omega), w64 (x := ((a : Int) + (n : Int)) - (n : Int)) (by omega) (by omega)]
   refine ⟨_, _, by rw [if_pos (by omega), if_pos (by omega), if_pos (by omega)], by rw [size_extract]; omega⟩
theorem pkid_tot (n : Nat) (hn : n < 4096) (t : ByteArray) (ht : t.size ≤ 140737488300000) : ∃ u : ByteArray × Int, Ev (fun k => cell_PutKid.f k (n : Int) t) u := by
 by_cases h1 : 1 ≤ n
 ·
  by_cases h2 : t.size ≤ 128
  ·
   exact ⟨_, kid_ev n t h1 hn h2⟩
  ·
   refine ⟨(⟨#[]⟩, 3), ?_⟩
   unfold cell_PutKid.f cell_page.f
   refine ev_bind_now (show (if (n : Int) ≥ 1 then some (decide ((n : Int) < 4096)) else some false) = some true by rw [if_pos (by omega)]; simp; omega) (ev_pos rfl (ev_step ?_))
   simp only [cell_PutKid.j0]
   exact ev_pos (decide_eq_true (by omega)) ev_some
 ·
  refine ⟨(⟨#[]⟩, 3), ?_⟩
  unfold cell_PutKid.f cell_page.f
  refine ev_bind_now (show (if (n : Int) ≥ 1 then some (decide ((n : Int) < 4096)) else some false) = some false by rw [if_neg (by omega)]) (ev_neg Bool.false_ne_true (ev_step ?_))
  simp only [cell_PutKid.j0]
  exact ev_pos (by simp) ev_some
theorem gkid_tot (s : ByteArray) (hs : s.size ≤ 140737488300000) : ∃ r : Int × ByteArray × Int, Ev (fun k => cell_GetKid.f k s) r ∧ r.2.1.size ≤ s.size := by
 obtain ⟨n, a, bad, h1, hn, ha⟩ := four_tot s hs
 obtain ⟨m, c, bad', h2, hm, hc⟩ := num_tot s hs a ha bad
 obtain ⟨t, x, h3, ht⟩ := take_tot s hs c m hc hm bad'
 obtain ⟨u, h4⟩ := pkid_tot n hn t (by omega)
 unfold cell_GetKid.f
 by_cases b : x.2.2 = true
 ·
  exact ⟨_, ev_bind h1 (ev_bind h2 (ev_bind_now h3 (ev_bind h4 (ev_pos b ev_some)))), Nat.zero_le _⟩
 ·
  by_cases b2 : u.2 = 0
  ·
   by_cases b3 : u.1.toList = s.toList
   ·
    exact ⟨_, ev_bind h1 (ev_bind h2 (ev_bind_now h3 (ev_bind h4 (ev_neg b (ev_pos b2 (ev_pos b3 ev_some)))))), ht⟩
   ·
    exact ⟨_, ev_bind h1 (ev_bind h2 (ev_bind_now h3 (ev_bind h4 (ev_neg b (ev_pos b2 (ev_neg b3 ev_some)))))), Nat.zero_le _⟩
  ·
   exact ⟨_, ev_bind h1 (ev_bind h2 (ev_bind_now h3 (ev_bind h4 (ev_neg b (ev_neg b2 ev_some))))), Nat.zero_le _⟩
theorem fourB_L (n : Nat) : L (fourB n) = Go.Proofs.YtafebmhmcdnhkaaGreatHead.le4 n := by
 show (strOfNums _).data.toList = _
 rw [strOfNums_data]
 simp only [List.map_cons, List.map_nil, Go.Proofs.YtafebmhmcdnhkaaGreatHead.le4]
 have h : ∀ m : Nat, UInt8.ofNat (m % 256) = UInt8.ofNat m := fun m => by rw [← UInt8.toNat_inj]; simp
 rw [show ((n : Int) % 256).toNat = n % 256 by omega, show (((n : Int) / 256) % 256).toNat = (n / 256) % 256 by omega, show (((n : Int) / 65536) % 256).toNat = (n / 65536) % 256 by omega, show (((n : Int) / 16777216) % 256).toNat = (n / 16777216) % 256 by omega, h, h, h, h]
theorem kidC_L (kid : Nat) (t : ByteArray) : L (kidC kid t) = Go.Proofs.YtafebmhmcdnhkaaGreatHead.le4 kid ++ (UInt8.ofNat t.size :: L t) := by
 unfold kidC
 rw [L_append, L_append, fourB_L]
 rfl
theorem bt_at_L (s : ByteArray) (i n : Nat) (h : (L s)[i]? = some (UInt8.ofNat n)) (hn : n < 256) : i < s.size ∧ bt s (i : Int) = (n : Int) := by
 obtain ⟨h', e⟩ := List.getElem?_eq_some_iff.1 h
 have hl := L_length s
 refine ⟨by omega, ?_⟩
 rw [bt_L s i h', e]
 have : (UInt8.ofNat n).toNat = n % 256 := by simp
 omega
theorem gkid_back (kid : Nat) (t : ByteArray) (h1 : 1 ≤ kid) (h2 : kid < 4096) (ht : t.size ≤ 128) : Ev (fun k => cell_GetKid.f k (kidC kid t)) ((kid : Int), t, 0) := by
 have hz := kidC_size kid t
 have hL := kidC_L kid t
 have hr := HSpec.read_ev (kidC kid t) 0 (by omega) (by omega)
 rw [List.drop_zero, hL, Go.Proofs.YtafebmhmcdnhkaaGreatHead.rd4_le4 kid (by omega)] at hr
 obtain ⟨hb1, hb2⟩ := bt_at_L (kidC kid t) 4 t.size (by rw [hL]; rfl) (by omega)
 have hg := get_small (kidC kid t) (by omega) 4 t.size hb1 hb2 (by omega)
 have hx : (kidC kid t).extract 5 (5 + t.size) = t := by
  apply L_inj
  rw [L_extract, hL, show 5 + t.size - 5 = t.size by omega]
  show (L t).take t.size = L t
  rw [List.take_of_length_le (by rw [L_length]; exact Nat.le_refl _)]
 unfold cell_GetKid.f cell_reader_four.f
 refine ev_bind (ev_bind hr (ev_pos rfl (ev_neg (by omega) (ev_some' (show _ = ((kid : Int), kidC kid t, ((4 : Nat) : Int), false) by simp only; rw [w64 (by omega) (by omega), show wrap64 (0 + 4) = ((4 : Nat) : Int) by unfold wrap64; omega]))))) ?_
 unfold cell_reader_number.f
 refine ev_bind (ev_bind hg (ev_pos rfl (ev_neg (by omega) (ev_some' (show _ = ((t.size : Int), kidC kid t, ((5 : Nat) : Int), false) by simp only; rw [w64 (by omega) (by omega)]))))) ?_
 refine ev_bind_now (show cell_reader_take.f (kidC kid t) ((5 : Nat) : Int) false (t.size : Int) = some (t, kidC kid t, ((5 + t.size : Nat) : Int), false) by
  unfold cell_reader_take.f
  rw [if_neg Bool.false_ne_true, if_neg (by rw [w64 (by omega) (by omega)]; omega), w64 (x := ((5 : Nat) : Int) + (t.size : Int)) (by omega) (by omega), w64 (x := (((5 : Nat) : Int) + (t.size : Int)) - (t.size : Int)) (by omega) (by omega), if_pos (by omega), if_pos (by omega), if_pos (by omega)]
  rw [show (((5 : Nat) : Int) + (t.size : Int) - (t.size : Int)).toNat = 5 by omega, show (((5 : Nat) : Int) + (t.size : Int)).toNat = 5 + t.size by omega, hx, show ((5 : Nat) : Int) + (t.size : Int) = ((5 + t.size : Nat) : Int) by omega]) ?_
 exact ev_bind (kid_ev kid t h1 h2 ht) (ev_neg Bool.false_ne_true (ev_pos rfl (ev_pos rfl ev_some)))
theorem kids_tot (all : ByteArray) (cells : List ByteArray) (hl : cells.length ≤ 65535) (hc : ∀ c ∈ cells, c.size ≤ 140737488300000) (ha : all.size ≤ 140737488300000) : ∃ r : List Int × List ByteArray × Bool, Ev (fun k => inner_kids.f k cells all) r ∧ r.2.1.length ≤ 65535 := by
 unfold inner_kids.f
 have loop : ∀ (d i : Nat) (x7 : List Int) (x8 : List ByteArray), i + d = cells.length → x7.length = i → x8.length = i → ∃ r : List Int × List ByteArray × Bool, Ev (fun k => inner_kids.l0 k all x7 x8 cells (cells.length : Int) (i : Int)) r ∧ r.2.1.length ≤ 65535 := by
  intro d
  induction d with
  | zero =>
   intro i x7 x8 hi h7 h8
   by_cases h0 : (x7.length : Int) = 0
   ·
    refine ⟨_, ev_step (r := ([], [], false)) ?_, Nat.zero_le _⟩
    simp only [inner_kids.l0]
    exact ev_neg (by omega) (ev_pos h0 ev_some)
   ·
    refine ⟨_, ev_step (r := (x7, x8.drop 1, true)) ?_, by simp only [List.length_drop]; omega⟩
    simp only [inner_kids.l0]
    exact ev_neg (by omega) (ev_neg h0 (ev_pos (by omega) (ev_pos (by omega) ev_some)))
  | succ d ih =>
   intro i x7 x8 hi h7 h8
   have hil : i < cells.length := by omega
   obtain ⟨r, hr, hrs⟩ := gkid_tot cells[i] (hc _ (List.getElem_mem hil))
   have hcs := hc _ (List.getElem_mem hil)
   by_cases e0 : r.2.2 = 0
   ·
    obtain ⟨q, hq, hql⟩ := ih (i + 1) (x7 ++ [r.1]) (x8 ++ [all ++ r.2.1]) (by omega) (by simp [h7]) (by simp [h8])
    by_cases i0 : (i : Int) = 0
    ·
     by_cases z : r.2.1.toList = ([] : List UInt8)
     ·
      refine ⟨q, ev_step ?_, hql⟩
      simp only [inner_kids.l0]
      rw [rdOf_nat _ cells i hil, w64_succ (by omega)]
      exact ev_pos (by omega) (ev_pos (by omega) (ev_pos (by omega) (ev_bind hr (ev_pos e0 (ev_pos i0 (ev_pos z (ev_pos (by omega) (ev_pos (by omega) (ev_pos (by omega) hq)))))))))
     ·
      refine ⟨_, ev_step (r := ([], [], false)) ?_, Nat.zero_le _⟩
      simp only [inner_kids.l0]
      rw [rdOf_nat _ cells i hil, w64_succ (by omega)]
      exact ev_pos (by omega) (ev_pos (by omega) (ev_pos (by omega) (ev_bind hr (ev_pos e0 (ev_pos i0 (ev_neg z ev_some))))))
    ·
     refine ⟨q, ev_step ?_, hql⟩
     simp only [inner_kids.l0]
     rw [rdOf_nat _ cells i hil, w64_succ (by omega)]
     exact ev_pos (by omega) (ev_pos (by omega) (ev_pos (by omega) (ev_bind hr (ev_pos e0 (ev_neg i0 (ev_pos (by omega) (ev_pos (by omega) (ev_pos (by omega) hq))))))))
   ·
    refine ⟨_, ev_step (r := ([], [], false)) ?_, Nat.zero_le _⟩
    simp only [inner_kids.l0]
    rw [rdOf_nat _ cells i hil]
    exact ev_pos (by omega) (ev_pos (by omega) (ev_pos (by omega) (ev_bind hr (ev_neg e0 ev_some))))
 exact loop cells.length 0 [] [] (Nat.zero_add _) rfl rfl
theorem kids_back (all : ByteArray) (ha : all.size ≤ 128) (k0 : Nat) (ks : List Nat) (rest : List ByteArray) (hl : ks.length = rest.length) (hn : rest.length ≤ 60000) (hk : ∀ x ∈ k0 :: ks, 1 ≤ x ∧ x < 4096) (hs : ∀ s ∈ rest, s.size ≤ 128) : Ev (fun k => inner_kids.f k (cellsOf (k0 :: ks) rest) all) ((k0 :: ks).map (fun x : Nat => (x : Int)), rest.map (all ++ ·), true) := by
 unfold inner_kids.f
 have hcl := cellsOf_length k0 ks rest hl
 have loop : ∀ (d i : Nat), i ≤ rest.length → rest.length - i = d → Ev (fun k => inner_kids.l0 k all (((k0 :: ks).take (i + 1)).map (fun x : Nat => (x : Int))) ((all ++ ⟨#[]⟩) :: (rest.take i).map (all ++ ·)) (cellsOf (k0 :: ks) rest) ((cellsOf (k0 :: ks) rest).length : Int) ((i + 1 : Nat) : Int)) ((k0 :: ks).map (fun x : Nat => (x : Int)), rest.map (all ++ ·), true) := by
  intro d
  induction d with
  | zero =>
   intro i h1 hd
   have hi : i = rest.length := by omega
   subst hi
   refine ev_step ?_
   simp only [inner_kids.l0]
   rw [List.take_of_length_le (l := k0 :: ks) (by simp; omega), List.take_of_length_le (l := rest) (Nat.le_refl _)]
   refine ev_neg (by omega) (ev_neg (by simp; omega) (ev_pos (by simp; omega) (ev_pos (Int.le_refl _) (ev_some' rfl))))
  | succ d ih =>
   intro i h1 hd
   have hir : i < rest.length := by omega
   have hik : i < ks.length := by omega
   have hc := cellsOf_get k0 ks rest i hik hir
   have hkj := hk ks[i] (List.mem_cons_of_mem _ (List.getElem_mem hik))
   have hsj := hs rest[i] (List.getElem_mem hir)
   refine ev_step ?_
   simp only [inner_kids.l0]
   rw [rdOf_get _ (cellsOf (k0 :: ks) rest) (i + 1) _ hc, w64_succ (by omega)]
   refine ev_pos (by omega) (ev_pos (by omega) (ev_pos (by omega) (ev_bind (gkid_back ks[i] rest[i] hkj.1 hkj.2 hsj) (ev_pos rfl (ev_neg (by omega) (ev_pos ?_ (ev_pos (by show all.size + rest[i].size ≤ _; omega) (ev_pos ?_ ?_))))))))
   ·
    simp only [List.length_map, List.length_take, List.length_cons]; omega
   ·
    simp only [List.length_map, List.length_take, List.length_cons]; omega
   ·
    have := ih (i + 1) (by omega) (by omega)
    have e1 : ((k0 :: ks).take (i + 1 + 1)).map (fun x : Nat => (x : Int)) = ((k0 :: ks).take (i + 1)).map (fun x : Nat => (x : Int)) ++ [(ks[i] : Int)] := by
     rw [List.take_add_one (i := i + 1), List.map_append]
     simp [List.getElem?_eq_getElem hik]
    have e2 : (all ++ ⟨#[]⟩) :: (rest.take (i + 1)).map (all ++ ·) = ((all ++ ⟨#[]⟩) :: (rest.take i).map (all ++ ·)) ++ [all ++ rest[i]] := by
     rw [List.take_add_one, List.map_append]
     simp [List.getElem?_eq_getElem hir]
    rw [e1, e2] at this
    exact this
 have hk0 := hk k0 List.mem_cons_self
 refine ev_step ?_
 simp only [inner_kids.l0]
 rw [show rdOf ByteArray.empty (cellsOf (k0 :: ks) rest) 0 = kidC k0 ⟨#[]⟩ from rfl]
 refine ev_pos (by omega) (ev_pos (by omega) (ev_pos (by omega) (ev_bind (gkid_back k0 ⟨#[]⟩ hk0.1 hk0.2 (Nat.zero_le _)) (ev_pos rfl (ev_pos (by simp) (ev_pos ?_ (ev_pos (by first | (simp; done) | (simp; omega)) (ev_pos (by show all.size + 0 ≤ _; omega) (ev_pos (by first | (simp; done) | (simp; omega)) ?_)))))))))
 ·
  rw [L_toList]
 ·
  have := loop rest.length 0 (Nat.zero_le _) rfl
  rw [show wrap64 (0 + 1) = ((0 + 1 : Nat) : Int) by unfold wrap64; omega]
  exact this
theorem stripped_join (seps : List ByteArray) : (stripped seps).2.map ((stripped seps).1 ++ ·) = seps := by
 cases seps with
 | nil => rfl
 | cons x r =>
  show ((x :: r).map (fun s => s.extract (span ((x :: r).map L)) s.size)).map (x.extract 0 (span ((x :: r).map L)) ++ ·) = x :: r
  rw [List.map_map]
  refine (List.map_congr_left fun s hs => ?_).trans (List.map_id _)
  have h := span_all (l := (x :: r).map L) (Nat.le_refl _) (a := L x) rfl (L s) (List.mem_map_of_mem hs)
  apply L_inj
  show L (x.extract 0 (span ((x :: r).map L)) ++ s.extract (span ((x :: r).map L)) s.size) = L (id s)
  rw [L_append, L_to, L_from, ← h.2]
  exact List.take_append_drop _ _
theorem fixedB_L (all high : ByteArray) : L (fixedB all high) = UInt8.ofNat all.size :: (L all ++ UInt8.ofNat high.size :: L high) := by
 unfold fixedB
 rw [L_append, L_append, L_append]
 show ([UInt8.ofNat all.size] ++ L all ++ [UInt8.ofNat high.size]) ++ L high = _
 simp
theorem unpacked_small (b : ByteArray) (f m : Int) : (unpacked b f m).1.length ≤ b.size ∧ ∀ c ∈ (unpacked b f m).1, c.size ≤ b.size := by
 unfold unpacked
 split
 ·
  exact ⟨Nat.zero_le _, fun c hc => by cases hc⟩
 ·
  split
  ·
   exact ⟨Nat.zero_le _, fun c hc => by cases hc⟩
  ·
   rename_i h1 h2
   split
   ·
    exact ⟨Nat.zero_le _, fun c hc => by cases hc⟩
   ·
    rename_i cs hcs
    split
    ·
     have e1 := cuts_length b _ _ _ _ hcs
     simp only [List.length_nil, Nat.zero_add] at e1
     exact ⟨by simp only; omega, cuts_size b _ _ _ _ (fun c hc => by cases hc) hcs⟩
    ·
     exact ⟨Nat.zero_le _, fun c hc => by cases hc⟩
abbrev Dcd := Int × Int × Int × ByteArray × List Int × List ByteArray × Int
def dnone : Dcd := (0, 0, 0, ⟨#[]⟩, [], [], 3)
theorem dec_tot (s : ByteArray) (hs : s.size ≤ 140737488300000) : ∃ r : Dcd, Ev (fun k => inner_Decode.f k s) r ∧ (r = dnone ∨ ∃ a0 a1 rr high kids seps, r = (a0, a1, rr, high, kids, seps, 0) ∧ seps.length ≤ 65535 ∧ enc a0 a1 rr high kids seps (s.size : Int) = (s, 0)) := by
 have ho := HSpec.open_ev s hs
 unfold inner_Decode.f
 by_cases hp : HSpec.isPage s
 ·
  rw [HSpec.opened_page hp] at ho
  generalize Go.Proofs.YtafebmhmcdnhkaaGreatHead.got (L s) = G at ho
  have hz := HSpec.size16 hp.1
  have hbz := HSpec.body_size (s := s) (by omega)
  by_cases hk : (G.k : Int) != 3
  ·
   refine ⟨dnone, ev_bind ho (ev_pos rfl (ev_step ?_)), .inl rfl⟩
   simp only [inner_Decode.j0]
   exact ev_pos hk ev_some
  ·
   obtain ⟨all, e1, h1, g1, z1⟩ := text_tot (HSpec.body s) (by omega) 0
   obtain ⟨high, e2, h2, g2, z2⟩ := text_tot (HSpec.body s) (by omega) e1
   by_cases he : e2 < 0
   ·
    refine ⟨dnone, ev_bind ho (ev_pos rfl (ev_step ?_)), .inl rfl⟩
    simp only [inner_Decode.j0]
    exact ev_neg hk (ev_bind h1 (ev_bind h2 (ev_pos he ev_some)))
   ·
    have hu := unpack_ev (HSpec.body s) e2 (G.c : Int)
    obtain ⟨u1, u2⟩ := unpacked_small (HSpec.body s) e2 (G.c : Int)
    obtain ⟨r, hr, hl⟩ := kids_tot all (unpacked (HSpec.body s) e2 (G.c : Int)).1 (by omega) (fun c hc => by have := u2 c hc; omega) (by omega)
    have J1 : Ev (fun k => inner_Decode.j1 k s high r.1 r.2.1 true (G.k : Int) (G.l : Int) (G.c : Int) (G.r : Int) (G.s : Int)) dnone := by
     refine ev_step ?_
     simp only [inner_Decode.j1]
     exact ev_pos (by simp) ev_some
    by_cases hue : (unpacked (HSpec.body s) e2 (G.c : Int)).2 = 0
    ·
     cases hrb : r.2.2 with
     | false =>
      refine ⟨dnone, ev_bind ho (ev_pos rfl (ev_step ?_)), .inl rfl⟩
      simp only [inner_Decode.j0]
      refine ev_neg hk (ev_bind h1 (ev_bind h2 (ev_neg he (ev_bind hu (ev_bind hr (ev_pos hue ?_))))))
      rw [hrb]
      exact J1
     | true =>
      have hn := enc_ev (G.s : Int) (G.l : Int) (G.r : Int) high r.1 r.2.1 (s.size : Int) (by omega)
      by_cases c1 : (enc (G.s : Int) (G.l : Int) (G.r : Int) high r.1 r.2.1 (s.size : Int)).2 = 0
      ·
       by_cases c2 : (enc (G.s : Int) (G.l : Int) (G.r : Int) high r.1 r.2.1 (s.size : Int)).1.toList = s.toList
       ·
        refine ⟨((G.s : Int), (G.l : Int), (G.r : Int), high, r.1, r.2.1, 0), ev_bind ho (ev_pos rfl (ev_step ?_)), .inr ⟨_, _, _, _, _, _, rfl, hl, ?_⟩⟩
        ·
         simp only [inner_Decode.j0]
         refine ev_neg hk (ev_bind h1 (ev_bind h2 (ev_neg he (ev_bind hu (ev_bind hr (ev_pos hue ?_))))))
         rw [hrb]
         refine ev_step ?_
         simp only [inner_Decode.j1]
         exact ev_neg (by decide) (ev_bind hn (ev_pos c1 (ev_pos c2 ev_some)))
        ·
         refine Prod.ext ?_ c1
         rw [L_toList, L_toList] at c2
         exact L_inj c2
       ·
        refine ⟨dnone, ev_bind ho (ev_pos rfl (ev_step ?_)), .inl rfl⟩
        simp only [inner_Decode.j0]
        refine ev_neg hk (ev_bind h1 (ev_bind h2 (ev_neg he (ev_bind hu (ev_bind hr (ev_pos hue ?_))))))
        rw [hrb]
        refine ev_step ?_
        simp only [inner_Decode.j1]
        exact ev_neg (by decide) (ev_bind hn (ev_pos c1 (ev_neg c2 ev_some)))
      ·
       refine ⟨dnone, ev_bind ho (ev_pos rfl (ev_step ?_)), .inl rfl⟩
       simp only [inner_Decode.j0]
       refine ev_neg hk (ev_bind h1 (ev_bind h2 (ev_neg he (ev_bind hu (ev_bind hr (ev_pos hue ?_))))))
       rw [hrb]
       refine ev_step ?_
       simp only [inner_Decode.j1]
       exact ev_neg (by decide) (ev_bind hn (ev_neg c1 ev_some))
    ·
     refine ⟨dnone, ev_bind ho (ev_pos rfl (ev_step ?_)), .inl rfl⟩
     simp only [inner_Decode.j0]
     exact ev_neg hk (ev_bind h1 (ev_bind h2 (ev_neg he (ev_bind hu (ev_bind hr (ev_neg hue J1))))))
 ·
  rw [HSpec.opened_none hp] at ho
  refine ⟨dnone, ev_bind ho (ev_neg (by decide) (ev_step ?_)), .inl rfl⟩
  simp only [inner_Decode.j0]
  exact ev_pos (by simp) ev_some
theorem enc_facts {a0 a1 r : Int} {high : ByteArray} {kids : List Int} {seps : List ByteArray} {p : Int} {s : ByteArray} (he : enc a0 a1 r high kids seps p = (s, 0)) :
  mayOk a0 a1 r high kids seps p = true ∧ (inNeed kids seps high : Int) ≤ p - 16 ∧ s = inPage a0 a1 r high kids seps p.toNat := by
 unfold enc at he
 split at he
 ·
  split at he
  ·
   rename_i h
   split at he
   ·
    rename_i h'
    exact ⟨h, h', (congrArg Prod.fst he).symm⟩
   ·
    exact absurd (congrArg Prod.snd he) (by simp)
  ·
   exact absurd (congrArg Prod.snd he) (by simp)
 ·
  exact absurd (congrArg Prod.snd he) (by simp)
theorem page_facts {a0 a1 r : Int} {high : ByteArray} {kids : List Int} {seps : List ByteArray} {p : Int} {s : ByteArray} (he : enc a0 a1 r high kids seps p = (s, 0)) :
  (s.size : Int) = p ∧ s.size ≤ 1024 ∧ HSpec.opened s = (3, a1, (kids.length : Int), r, a0, inBody (s.size - 16) kids seps high, 0) ∧ inNeed kids seps high ≤ s.size - 16 ∧ seps.length ≤ 1024 ∧ (inBody (s.size - 16) kids seps high).size + 16 = s.size := by
 obtain ⟨hm, hf, hp⟩ := enc_facts he
 obtain ⟨h0, h1, h2, h3, h4, h5, h6, h7, h8, h9, h10⟩ := may_facts hm
 obtain ⟨P, rfl, hP⟩ := size_cases h0
 have hb : P ≤ 1024 ∧ 128 ≤ P := by rcases hP with rfl | rfl | rfl | rfl <;> omega
 have hcl : (cellsOf (kids.map Int.toNat) (stripped seps).2).length = kids.length := by
  rw [cellsOf_len _ _ (by rw [List.length_map, stripped_snd_length]; omega), stripped_snd_length]
  omega
 have hneed : need (fixedB (stripped seps).1 high) (cellsOf (kids.map Int.toNat) (stripped seps).2) = inNeed kids seps high := rfl
 have hnl := need_len (fixedB (stripped seps).1 high) (cellsOf (kids.map Int.toNat) (stripped seps).2)
 rw [hcl, hneed] at hnl
 have hbs : (inBody (P - 16) kids seps high).size = P - 16 := Go.Proofs.YtafebmhmcdnhkaaGreatSlot.body_size (by rw [hneed]; omega)
 have ok : (inHd a0 a1 r kids).ok := by
  show 1 ≤ 3 ∧ 3 < 5 ∧ a1.toNat < 256 ∧ kids.length < 65536 ∧ r.toNat < 4096 ∧ a0.toNat < 4096
  omega
 have hz : s.size = P := by
  rw [hp]
  exact Go.Proofs.YtafebmhmcdnhkaaGreatHead.pageB_size (by rw [L_length]; show (inBody ((P : Int).toNat - 16) kids seps high).size + 16 ≤ (P : Int).toNat; rw [show (P : Int).toNat = P by omega]; omega)
 refine ⟨by omega, by omega, ?_, by omega, by omega, by rw [hz]; omega⟩
 rw [hz, hp]
 show HSpec.opened (Go.Proofs.YtafebmhmcdnhkaaGreatHead.pageB (inHd a0 a1 r kids) (L (inBody ((P : Int).toNat - 16) kids seps high)) (P : Int).toNat) = _
 rw [show (P : Int).toNat = P by omega, HSpec.opened_of ok hP (by rw [L_length]; omega)]
 have e1 : ((inHd a0 a1 r kids).l : Int) = a1 := by show ((a1.toNat : Nat) : Int) = a1; omega
 have e2 : ((inHd a0 a1 r kids).r : Int) = r := by show ((r.toNat : Nat) : Int) = r; omega
 have e3 : ((inHd a0 a1 r kids).s : Int) = a0 := by show ((a0.toNat : Nat) : Int) = a0; omega
 unfold HSpec.told
 rw [e1, e2, e3]
 refine congrArg (fun b => ((3 : Int), a1, (kids.length : Int), r, a0, b, (0 : Int))) (L_inj ?_)
 show L ⟨(Go.Proofs.YtafebmhmcdnhkaaGreatHead.rest (L (inBody (P - 16) kids seps high)) P).toArray⟩ = _
 rw [L_mk]
 unfold Go.Proofs.YtafebmhmcdnhkaaGreatHead.rest
 rw [show P - 16 - (L (inBody (P - 16) kids seps high)).length = 0 by rw [L_length, hbs]; omega, List.replicate_zero, List.append_nil]
theorem body_texts {a0 a1 r : Int} {high : ByteArray} {kids : List Int} {seps : List ByteArray} {p : Int} {s : ByteArray} (he : enc a0 a1 r high kids seps p = (s, 0)) :
  Ev (fun k => inner_text.f k (inBody (s.size - 16) kids seps high) 0) ((stripped seps).1, ((1 + (stripped seps).1.size : Nat) : Int)) ∧
  Ev (fun k => inner_text.f k (inBody (s.size - 16) kids seps high) ((1 + (stripped seps).1.size : Nat) : Int)) (high, ((fixedB (stripped seps).1 high).size : Int)) := by
 obtain ⟨p1, p2, p3, p4, p5, p6⟩ := page_facts he
 obtain ⟨hm, hf, hp⟩ := enc_facts he
 obtain ⟨h0, h1, h2, h3, h4, h5, h6, h7, h8, h9, h10⟩ := may_facts hm
 have hs : ∀ t ∈ seps, t.size ≤ 128 := fun t m => by have := h9 t m; omega
 have ha := stripped_fst_le hs
 have hfz := fixedB_size (stripped seps).1 high
 have hneed : need (fixedB (stripped seps).1 high) (cellsOf (kids.map Int.toNat) (stripped seps).2) = inNeed kids seps high := rfl
 have hfn : (fixedB (stripped seps).1 high).size ≤ inNeed kids seps high := by rw [← hneed]; unfold need; omega
 obtain ⟨R, hR⟩ : ∃ R, L (inBody (s.size - 16) kids seps high) = UInt8.ofNat (stripped seps).1.size :: (L (stripped seps).1 ++ UInt8.ofNat high.size :: (L high ++ R)) := by
  refine ⟨cat (cellsOf (kids.map Int.toNat) (stripped seps).2) ++ List.replicate ((s.size - 16) - need (fixedB (stripped seps).1 high) (cellsOf (kids.map Int.toNat) (stripped seps).2)) 0 ++ dir (fixedB (stripped seps).1 high).size (cellsOf (kids.map Int.toNat) (stripped seps).2), ?_⟩
  unfold inBody
  rw [Go.Proofs.YtafebmhmcdnhkaaGreatSlot.body_L, fixedB_L]
  simp
 generalize hA : (stripped seps).1 = A at *
 generalize hB : inBody (s.size - 16) kids seps high = B at *
 have la := L_length A
 have lh := L_length high
 obtain ⟨b1, b2⟩ := bt_at_L B 0 A.size (by rw [hR]; rfl) (by omega)
 obtain ⟨c1, c2⟩ := bt_at_L B (1 + A.size) high.size (by rw [hR, Nat.add_comm, List.getElem?_cons_succ, List.getElem?_append_right (by omega), la, Nat.sub_self]; rfl) (by omega)
 have x1 : B.extract (0 + 1) (0 + 1 + A.size) = A := by
  apply L_inj
  rw [L_extract, hR, show 0 + 1 + A.size - (0 + 1) = A.size by omega]
  show (L A ++ _).take A.size = L A
  rw [← la, List.take_left]
 have x2 : B.extract (1 + A.size + 1) (1 + A.size + 1 + high.size) = high := by
  apply L_inj
  rw [L_extract, hR, show 1 + A.size + 1 + high.size - (1 + A.size + 1) = high.size by omega, show 1 + A.size + 1 = (A.size + 1) + 1 by omega, List.drop_succ_cons, ← la, ← List.drop_drop, List.drop_left]
  show (L high ++ R).take high.size = L high
  rw [← lh, List.take_left]
 refine ⟨?_, ?_⟩
 ·
  have := text_at B (by omega) 0 A.size (by omega) b2 (by omega)
  rw [x1] at this
  rw [show 1 + A.size = 0 + 1 + A.size by omega]
  exact this
 ·
  have := text_at B (by omega) (1 + A.size) high.size (by omega) c2 (by omega)
  rw [x2] at this
  rw [hfz, show 2 + A.size + high.size = 1 + A.size + 1 + high.size by omega]
  exact this
theorem dec_back {a0 a1 r : Int} {high : ByteArray} {kids : List Int} {seps : List ByteArray} {s : ByteArray} (he : enc a0 a1 r high kids seps (s.size : Int) = (s, 0)) : Ev (fun k => inner_Decode.f k s) (a0, a1, r, high, kids, seps, 0) := by
 obtain ⟨p1, p2, p3, p4, p5, p6⟩ := page_facts he
 obtain ⟨t1, t2⟩ := body_texts he
 obtain ⟨hm, hf, hp⟩ := enc_facts he
 obtain ⟨h0, h1, h2, h3, h4, h5, h6, h7, h8, h9, h10⟩ := may_facts hm
 have hs : ∀ t ∈ seps, t.size ≤ 128 := fun t m => by have := h9 t m; omega
 have ho := HSpec.open_ev s (by omega)
 rw [p3] at ho
 obtain ⟨k0, ks, ek⟩ : ∃ k0 ks, kids.map Int.toNat = k0 :: ks := by
  cases h : kids.map Int.toNat with
  | nil =>
   have h11 : (kids.map Int.toNat).length = 0 := by rw [h]; rfl
   rw [List.length_map] at h11
   omega
  | cons a b => exact ⟨a, b, rfl⟩
 have en := nat_kids h6
 have hlen : ks.length = seps.length := by have := congrArg List.length ek; simp at this; omega
 have hk : ∀ x ∈ k0 :: ks, 1 ≤ x ∧ x < 4096 := fun x hx => by
  rw [← ek] at hx
  obtain ⟨y, hy, rfl⟩ := List.mem_map.1 hx
  have := h6 y hy
  omega
 have hsl := stripped_snd_length seps
 have hcl : (cellsOf (kids.map Int.toNat) (stripped seps).2).length = kids.length := by
  rw [cellsOf_len _ _ (by rw [List.length_map, stripped_snd_length]; omega), stripped_snd_length]
  omega
 have hu : unpacked (inBody (s.size - 16) kids seps high) ((fixedB (stripped seps).1 high).size : Int) (kids.length : Int) = (cellsOf (kids.map Int.toNat) (stripped seps).2, 0) := by
  rw [← hcl]
  exact unpacked_body p4 (by omega)
 have hu' := unpack_ev (inBody (s.size - 16) kids seps high) ((fixedB (stripped seps).1 high).size : Int) (kids.length : Int)
 rw [hu] at hu'
 have hkb := kids_back (stripped seps).1 (stripped_fst_le hs) k0 ks (stripped seps).2 (by omega) (by omega) hk (stripped_snd_size hs)
 rw [← ek, en, stripped_join] at hkb
 have hn := enc_ev a0 a1 r high kids seps (s.size : Int) (by omega)
 rw [he] at hn
 unfold inner_Decode.f
 refine ev_bind ho (ev_pos rfl (ev_step ?_))
 simp only [inner_Decode.j0]
 refine ev_neg (by decide) (ev_bind t1 (ev_bind t2 (ev_neg (by omega) (ev_bind hu' (ev_bind hkb (ev_pos rfl (ev_step ?_)))))))
 simp only [inner_Decode.j1]
 exact ev_neg (by decide) (ev_bind hn (ev_pos rfl (ev_pos rfl ev_some)))
end Go.Proofs.YtafebmhmcdnhkaaGreat.Spec
