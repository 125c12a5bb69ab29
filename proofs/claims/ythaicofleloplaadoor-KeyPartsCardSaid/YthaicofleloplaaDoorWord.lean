/- What is proved here: plain facts on lists of bytes: an order in which a difference is met, numbers as bytes highest first, and the bytes of a number as word has them. Conditions: as each theorem names them. -/
import Derived.Test.YthaicofleloplaaDoorEv
set_option linter.unusedVariables false
set_option linter.unusedSimpArgs false
namespace Go.Proofs.YthaicofleloplaaDoorCol
open Go.RowKit Go.Proofs.YthaicofleloplaaDoorEv

/-! ### the order -/
/-- A lower byte is met first. -/
def Before : List UInt8 → List UInt8 → Prop
  | a :: l, b :: m => a.toNat < b.toNat ∨ a = b ∧ Before l m
  | _, _ => False
theorem Before.append : ∀ {l m : List UInt8} (_ : Before l m) (x y : List UInt8), Before (l ++ x) (m ++ y)
  | [], _, h, _, _ => by cases h
  | _ :: _, [], h, _, _ => by cases h
  | a :: l, b :: m, h, x, y => by
    rcases h with h | ⟨h, k⟩
    · exact .inl h
    · exact .inr ⟨h, k.append x y⟩
theorem Before.prepend : ∀ (p : List UInt8) {l m : List UInt8} (_ : Before l m), Before (p ++ l) (p ++ m)
  | [], _, _, h => h
  | _ :: p, _, _, h => .inr ⟨rfl, Before.prepend p h⟩
theorem Before.less : ∀ {l m : List UInt8} (_ : Before l m), Op.bytesLess l m = true
  | [], _, h => by cases h
  | _ :: _, [], h => by cases h
  | a :: l, b :: m, h => by
    show (decide (a < b) || (a == b && Op.bytesLess l m)) = true
    rcases h with h | ⟨h, k⟩
    · simp [UInt8.lt_iff_toNat_lt, h]
    · simp [h, k.less]
theorem Before.not_less : ∀ {l m : List UInt8} (_ : Before l m), Op.bytesLess m l = false
  | [], _, h => by cases h
  | _ :: _, [], h => by cases h
  | a :: l, b :: m, h => by
    show (decide (b < a) || (b == a && Op.bytesLess m l)) = false
    rcases h with h | ⟨h, k⟩
    · have e : ¬ b = a := by rintro rfl; omega
      simp [UInt8.lt_iff_toNat_lt, e]
      omega
    · simp [h, k.not_less, UInt8.lt_iff_toNat_lt]
theorem Before.not_prefix : ∀ {l m : List UInt8} (_ : Before l m), m.take l.length ≠ l ∧ l.take m.length ≠ m
  | [], _, h => by cases h
  | _ :: _, [], h => by cases h
  | a :: l, b :: m, h => by
    rcases h with h | ⟨h, k⟩
    · have e : ¬ b = a := by rintro rfl; omega
      refine ⟨fun q => ?_, fun q => ?_⟩
      · simp at q; exact e q.1
      · simp at q; exact e q.1.symm
    · refine ⟨fun q => ?_, fun q => ?_⟩
      · simp at q; exact k.not_prefix.1 q.2
      · simp at q; exact k.not_prefix.2 q.2
theorem Before.ne {l m : List UInt8} (h : Before l m) : l ≠ m := by
  rintro rfl
  exact h.not_prefix.1 (List.take_of_length_le (Nat.le_refl _))
theorem u8_lt (b : UInt8) : b.toNat < 256 := b.toNat_lt
theorem toNat_of (n : Nat) (h : n < 256) : (UInt8.ofNat n).toNat = n := by simp; omega
theorem of_toNat (b : UInt8) : UInt8.ofNat b.toNat = b := by simp

/-! ### numbers, highest byte first -/
def be : Nat → Nat → List UInt8
  | 0, _ => []
  | k + 1, n => UInt8.ofNat (n / 256 ^ k) :: be k n
theorem be_length : ∀ k n, (be k n).length = k
  | 0, _ => rfl
  | k + 1, n => by show (be k n).length + 1 = _; rw [be_length k n]
theorem be_snoc : ∀ k n, be (k + 1) n = be k (n / 256) ++ [UInt8.ofNat n]
  | 0, n => by simp [be]
  | k + 1, n => by
    have h := be_snoc k n
    have e : n / 256 ^ (k + 1) = n / 256 / 256 ^ k := by rw [Nat.pow_succ, Nat.mul_comm, Nat.div_div_eq_div_mul]
    show UInt8.ofNat (n / 256 ^ (k + 1)) :: be (k + 1) n = _
    rw [h, e]
    rfl
def val (l : List UInt8) : Nat := l.foldl (fun a b => a * 256 + b.toNat) 0
theorem val_snoc (l : List UInt8) (b : UInt8) : val (l ++ [b]) = val l * 256 + b.toNat := by simp [val, List.foldl_append]
theorem of_mod (n : Nat) : UInt8.ofNat (n % 256) = UInt8.ofNat n := by rw [← UInt8.toNat_inj]; simp
theorem of_add (n : Nat) (b : UInt8) : UInt8.ofNat (n * 256 + b.toNat) = b := by rw [← UInt8.toNat_inj]; have := u8_lt b; simp [Nat.add_mod]
theorem val_be : ∀ k n, n < 256 ^ k → val (be k n) = n
  | 0, n, h => by simp at h; subst h; rfl
  | k + 1, n, h => by
    have h2 : n / 256 < 256 ^ k := by rw [Nat.pow_succ] at h; omega
    rw [be_snoc, val_snoc, val_be k _ h2]
    simp
    omega
theorem exists_snoc {l : List UInt8} {k : Nat} (h : l.length = k + 1) : ∃ p b, l = p ++ [b] ∧ p.length = k := by
  have hne : l ≠ [] := by rintro rfl; simp at h
  refine ⟨l.dropLast, l.getLast hne, (List.dropLast_concat_getLast hne).symm, ?_⟩
  rw [List.length_dropLast]; omega
theorem val_lt : ∀ (k : Nat) (l : List UInt8), l.length = k → val l < 256 ^ k
  | 0, l, h => by obtain rfl := List.eq_nil_of_length_eq_zero h; simp [val]
  | k + 1, l, h => by
    obtain ⟨p, b, rfl, hp⟩ := exists_snoc h
    have := val_lt k p hp
    have := u8_lt b
    rw [val_snoc, Nat.pow_succ]
    omega
theorem be_val : ∀ (k : Nat) (l : List UInt8), l.length = k → be k (val l) = l
  | 0, l, h => by obtain rfl := List.eq_nil_of_length_eq_zero h; rfl
  | k + 1, l, h => by
    obtain ⟨p, b, rfl, hp⟩ := exists_snoc h
    have hb := u8_lt b
    rw [val_snoc, be_snoc, of_add, show (val p * 256 + b.toNat) / 256 = val p by omega, be_val k p hp]
theorem be_before : ∀ (k n m : Nat), n < m → m < 256 ^ k → Before (be k n) (be k m)
  | 0, n, m, h, h2 => by simp at h2; omega
  | k + 1, n, m, h, h2 => by
    rw [be_snoc, be_snoc]
    have h3 : m / 256 < 256 ^ k := by rw [Nat.pow_succ] at h2; omega
    by_cases q : n / 256 < m / 256
    · exact (be_before k _ _ q h3).append _ _
    · have e : n / 256 = m / 256 := by omega
      rw [e]
      refine Before.prepend _ (.inl ?_)
      simp
      omega

/-! ### a number's bytes -/
def nb (n : Nat) : Nat := if n < 16777216 then 3 else if n < 4294967296 then 4 else if n < 1099511627776 then 5 else if n < 281474976710656 then 6 else if n < 72057594037927936 then 7 else 8
theorem nb_le (n : Nat) : 3 ≤ nb n ∧ nb n ≤ 8 := by unfold nb; repeat' split
                                                    all_goals omega
theorem nb_mono {n m : Nat} (h : n ≤ m) : nb n ≤ nb m := by
  unfold nb
  repeat' split
  all_goals omega
theorem nb_lt {n : Nat} (h : n < 18446744073709551616) : n < 256 ^ nb n := by
  unfold nb
  repeat' split
  all_goals simp
  all_goals omega
theorem nb_ge {n : Nat} (h : 67824 ≤ n) (i : Nat) (hi : 3 ≤ i) (hlt : i < nb n) : 256 ^ i ≤ n := by
  unfold nb at hlt
  match i, hi with
  | 3, _ => simp; split at hlt <;> omega
  | 4, _ => simp; repeat' split at hlt
            all_goals omega
  | 5, _ => simp; repeat' split at hlt
            all_goals omega
  | 6, _ => simp; repeat' split at hlt
            all_goals omega
  | 7, _ => simp; repeat' split at hlt
            all_goals omega
  | i + 8, _ => repeat' split at hlt
                all_goals omega
def whead (n : Nat) : Nat := if n ≤ 240 then n else if n ≤ 2287 then 241 + (n - 240) / 256 else if n ≤ 67823 then 249 else 247 + nb n
def wcount (n : Nat) : Nat := if n ≤ 240 then 0 else if n ≤ 2287 then 1 else if n ≤ 67823 then 2 else nb n
def wrest (n : Nat) : Nat := if n ≤ 240 then 0 else if n ≤ 2287 then (n - 240) % 256 else if n ≤ 67823 then n - 2288 else n
def wput (n : Nat) : List UInt8 := UInt8.ofNat (whead n) :: be (wcount n) (wrest n)
def wmore (c : Nat) : Nat := if c > 249 then c - 247 else if c = 249 then 2 else if c ≥ 241 then 1 else 0
def wval (c v : Nat) : Nat := if wmore c = 0 then c else if wmore c = 1 then 240 + (c - 241) * 256 + v else if wmore c = 2 then 2288 + v else v
theorem wput_length (n : Nat) : (wput n).length = 1 + wcount n := by show (be _ _).length + 1 = _; rw [be_length]; omega
theorem wcount_le (n : Nat) : wcount n ≤ 8 := by
  unfold wcount
  have := nb_le n
  repeat' split
  all_goals omega
theorem whead_lt (n : Nat) : whead n < 256 := by
  unfold whead
  have := nb_le n
  repeat' split
  all_goals omega
theorem whead_more (n : Nat) : wmore (whead n) = wcount n := by
  have := nb_le n
  unfold whead wcount wmore
  repeat' split
  all_goals omega
theorem wrest_lt {n : Nat} (h : n < 18446744073709551616) : wrest n < 256 ^ wcount n := by
  unfold wrest wcount
  repeat' split
  · simp
  · simp; omega
  · simp; omega
  · exact nb_lt h
theorem whead_val (n : Nat) : wval (whead n) (wrest n) = n := by
  have h := whead_more n
  have := nb_le n
  unfold wval
  rw [h]
  unfold wcount whead wrest
  by_cases h1 : n ≤ 240
  · simp only [if_pos h1]; simp
  · simp only [if_neg h1]
    by_cases h2 : n ≤ 2287
    · simp only [if_pos h2]; simp; omega
    · simp only [if_neg h2]
      by_cases h3 : n ≤ 67823
      · simp only [if_pos h3]; simp; omega
      · simp only [if_neg h3]
        rw [if_neg (by omega), if_neg (by omega), if_neg (by omega)]
theorem wlt {n m : Nat} (h : n < m) (hm : m < 18446744073709551616) : whead n < whead m ∨ whead n = whead m ∧ wcount n = wcount m ∧ wrest n < wrest m := by
  have h1 := nb_le n
  have h2 := nb_le m
  have h3 := nb_mono (Nat.le_of_lt h)
  unfold whead wcount wrest
  repeat' split
  all_goals omega
theorem wput_before {n m : Nat} (h : n < m) (hm : m < 18446744073709551616) : Before (wput n) (wput m) := by
  unfold wput
  rcases wlt h hm with q | ⟨q1, q2, q3⟩
  · exact .inl (by rw [toNat_of _ (whead_lt n), toNat_of _ (whead_lt m)]; exact q)
  · refine .inr ⟨by rw [q1], ?_⟩
    rw [q2]
    exact be_before _ _ _ q3 (wrest_lt hm)
/-- The number of a list of bytes, how many it has, what is wrong. -/
def wparse : List UInt8 → Nat × Nat × Int
  | [] => (0, 0, 7)
  | c :: r => if r.length < wmore c.toNat then (0, 0, 7) else if wput (wval c.toNat (val (r.take (wmore c.toNat)))) = c :: r.take (wmore c.toNat) then (wval c.toNat (val (r.take (wmore c.toNat))), 1 + wmore c.toNat, 0) else (0, 0, 3)
theorem wmore_le (c : Nat) (h : c < 256) : wmore c ≤ 8 := by
  unfold wmore
  repeat' split
  all_goals omega
theorem wval_lt (c v : Nat) (h : c < 256) (hv : v < 256 ^ wmore c) : wval c v < 18446744073709551616 := by
  have hm := wmore_le c h
  have : 256 ^ wmore c ≤ 256 ^ 8 := Nat.pow_le_pow_right (by omega) hm
  have e8 : (256 : Nat) ^ 8 = 18446744073709551616 := by decide
  rw [e8] at this
  have q1 : wmore c = 1 → v < 256 := fun e => by rw [e] at hv; simpa using hv
  have q2 : wmore c = 2 → v < 65536 := fun e => by rw [e] at hv; simpa using hv
  unfold wval
  repeat' split
  · omega
  · have := q1 (by assumption); omega
  · have := q2 (by assumption); omega
  · omega
theorem wparse_back {n : Nat} (h : n < 18446744073709551616) (x : List UInt8) : wparse (wput n ++ x) = (n, (wput n).length, 0) := by
  have e1 := toNat_of _ (whead_lt n)
  rw [show wput n ++ x = UInt8.ofNat (whead n) :: (be (wcount n) (wrest n) ++ x) from rfl]
  simp only [wparse]
  have e2 : (be (wcount n) (wrest n) ++ x).take (wcount n) = be (wcount n) (wrest n) := by rw [List.take_append_of_le_length (by rw [be_length]; exact Nat.le_refl _), List.take_of_length_le (by rw [be_length]; exact Nat.le_refl _)]
  rw [e1, whead_more, if_neg (by rw [List.length_append, be_length]; omega), e2, val_be _ _ (wrest_lt h), whead_val, if_pos (show wput n = UInt8.ofNat (whead n) :: be (wcount n) (wrest n) from rfl), wput_length]
theorem wparse_short {n : Nat} (h : n < 18446744073709551616) {j : Nat} (hj : j < (wput n).length) : wparse ((wput n).take j) = (0, 0, 7) := by
  cases j with
  | zero => rfl
  | succ j =>
    have e1 := toNat_of _ (whead_lt n)
    rw [wput_length] at hj
    rw [show (wput n).take (j + 1) = UInt8.ofNat (whead n) :: (be (wcount n) (wrest n)).take j from rfl]
    simp only [wparse]
    rw [e1, whead_more, if_pos (by rw [List.length_take, be_length]; omega)]
theorem wparse_once (l : List UInt8) : (∃ n m, wparse l = (n, m, 0) ∧ n < 18446744073709551616 ∧ 0 < m ∧ m ≤ l.length ∧ l.take m = wput n) ∨ wparse l = (0, 0, 7) ∨ wparse l = (0, 0, 3) := by
  cases l with
  | nil => exact .inr (.inl rfl)
  | cons c r =>
    simp only [wparse]
    by_cases h1 : r.length < wmore c.toNat
    · rw [if_pos h1]; exact .inr (.inl rfl)
    · rw [if_neg h1]
      by_cases h2 : wput (wval c.toNat (val (r.take (wmore c.toNat)))) = c :: r.take (wmore c.toNat)
      · rw [if_pos h2]
        refine .inl ⟨_, _, rfl, wval_lt _ _ (u8_lt c) (val_lt _ _ (by rw [List.length_take]; omega)), by omega, by show _ ≤ r.length + 1; omega, ?_⟩
        rw [h2, Nat.add_comm, List.take_succ_cons]
      · rw [if_neg h2]; exact .inr (.inr rfl)
end Go.Proofs.YthaicofleloplaaDoorCol
