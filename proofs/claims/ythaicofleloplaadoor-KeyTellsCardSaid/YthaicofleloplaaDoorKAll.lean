/- What is proved here: that the law's fixed calls answer as they should. Conditions: none. -/
import Derived.Test.YthaicofleloplaaDoorEv
import Derived.Test.YthaicofleloplaaDoorRepl
import Derived.Test.YthaicofleloplaaDoorMath
import Derived.Test.YthaicofleloplaaDoorPF
import Derived.Laws.BitsAllLaws
set_option linter.unusedVariables false
set_option linter.unusedSimpArgs false
namespace Go.Proofs.YthaicofleloplaaDoorCol
open Go.RowKit Go.Proofs.YthaicofleloplaaDoorEv

/-! ### the order -/
/-- A lower byte is met first. -/
def Before : List UInt8 → List UInt8 → Prop
  | a :: l, b :: m => a.toNat < b.toNat ∨ a = b ∧ Before l m
  | _, _ => False
theorem Before.append : ∀ {l m : List UInt8} (_ : Before l m) (x y : List UInt8), Before (l ++ x) (m ++ y)
  | [], _, h, _, _ => by cases h
  | _ :: _, [], h, _, _ => by cases h
  | a :: l, b :: m, h, x, y => by
    rcases h with h | ⟨h, k⟩
    · exact .inl h
    · exact .inr ⟨h, k.append x y⟩
theorem Before.prepend : ∀ (p : List UInt8) {l m : List UInt8} (_ : Before l m), Before (p ++ l) (p ++ m)
  | [], _, _, h => h
  | _ :: p, _, _, h => .inr ⟨rfl, Before.prepend p h⟩
theorem Before.less : ∀ {l m : List UInt8} (_ : Before l m), Op.bytesLess l m = true
  | [], _, h => by cases h
  | _ :: _, [], h => by cases h
  | a :: l, b :: m, h => by
    show (decide (a < b) || (a == b && Op.bytesLess l m)) = true
    rcases h with h | ⟨h, k⟩
    · simp [UInt8.lt_iff_toNat_lt, h]
    · simp [h, k.less]
theorem Before.not_less : ∀ {l m : List UInt8} (_ : Before l m), Op.bytesLess m l = false
  | [], _, h => by cases h
  | _ :: _, [], h => by cases h
  | a :: l, b :: m, h => by
    show (decide (b < a) || (b == a && Op.bytesLess m l)) = false
    rcases h with h | ⟨h, k⟩
    · have e : ¬ b = a := by rintro rfl; omega
      simp [UInt8.lt_iff_toNat_lt, e]
      omega
    · simp [h, k.not_less, UInt8.lt_iff_toNat_lt]
theorem Before.not_prefix : ∀ {l m : List UInt8} (_ : Before l m), m.take l.length ≠ l ∧ l.take m.length ≠ m
  | [], _, h => by cases h
  | _ :: _, [], h => by cases h
  | a :: l, b :: m, h => by
    rcases h with h | ⟨h, k⟩
    · have e : ¬ b = a := by rintro rfl; omega
      refine ⟨fun q => ?_, fun q => ?_⟩
      · simp at q; exact e q.1
      · simp at q; exact e q.1.symm
    · refine ⟨fun q => ?_, fun q => ?_⟩
      · simp at q; exact k.not_prefix.1 q.2
      · simp at q; exact k.not_prefix.2 q.2
theorem Before.ne {l m : List UInt8} (h : Before l m) : l ≠ m := by
  rintro rfl
  exact h.not_prefix.1 (List.take_of_length_le (Nat.le_refl _))
theorem u8_lt (b : UInt8) : b.toNat < 256 := b.toNat_lt
theorem toNat_of (n : Nat) (h : n < 256) : (UInt8.ofNat n).toNat = n := by simp; omega
theorem of_toNat (b : UInt8) : UInt8.ofNat b.toNat = b := by simp

/-! ### numbers, highest byte first -/
def be : Nat → Nat → List UInt8
  | 0, _ => []
  | k + 1, n => UInt8.ofNat (n / 256 ^ k) :: be k n
theorem be_length : ∀ k n, (be k n).length = k
  | 0, _ => rfl
  | k + 1, n => by show (be k n).length + 1 = _; rw [be_length k n]
theorem be_snoc : ∀ k n, be (k + 1) n = be k (n / 256) ++ [UInt8.ofNat n]
  | 0, n => by simp [be]
  | k + 1, n => by
    have h := be_snoc k n
    have e : n / 256 ^ (k + 1) = n / 256 / 256 ^ k := by rw [Nat.pow_succ, Nat.mul_comm, Nat.div_div_eq_div_mul]
    show UInt8.ofNat (n / 256 ^ (k + 1)) :: be (k + 1) n = _
    rw [h, e]
    rfl
def val (l : List UInt8) : Nat := l.foldl (fun a b => a * 256 + b.toNat) 0
theorem val_snoc (l : List UInt8) (b : UInt8) : val (l ++ [b]) = val l * 256 + b.toNat := by simp [val, List.foldl_append]
theorem of_mod (n : Nat) : UInt8.ofNat (n % 256) = UInt8.ofNat n := by rw [← UInt8.toNat_inj]; simp
theorem of_add (n : Nat) (b : UInt8) : UInt8.ofNat (n * 256 + b.toNat) = b := by rw [← UInt8.toNat_inj]; have := u8_lt b; simp [Nat.add_mod]
theorem val_be : ∀ k n, n < 256 ^ k → val (be k n) = n
  | 0, n, h => by simp at h; subst h; rfl
  | k + 1, n, h => by
    have h2 : n / 256 < 256 ^ k := by rw [Nat.pow_succ] at h; omega
    rw [be_snoc, val_snoc, val_be k _ h2]
    simp
    omega
theorem exists_snoc {l : List UInt8} {k : Nat} (h : l.length = k + 1) : ∃ p b, l = p ++ [b] ∧ p.length = k := by
  have hne : l ≠ [] := by rintro rfl; simp at h
  refine ⟨l.dropLast, l.getLast hne, (List.dropLast_concat_getLast hne).symm, ?_⟩
  rw [List.length_dropLast]; omega
theorem val_lt : ∀ (k : Nat) (l : List UInt8), l.length = k → val l < 256 ^ k
  | 0, l, h => by obtain rfl := List.eq_nil_of_length_eq_zero h; simp [val]
  | k + 1, l, h => by
    obtain ⟨p, b, rfl, hp⟩ := exists_snoc h
    have := val_lt k p hp
    have := u8_lt b
    rw [val_snoc, Nat.pow_succ]
    omega
theorem be_val : ∀ (k : Nat) (l : List UInt8), l.length = k → be k (val l) = l
  | 0, l, h => by obtain rfl := List.eq_nil_of_length_eq_zero h; rfl
  | k + 1, l, h => by
    obtain ⟨p, b, rfl, hp⟩ := exists_snoc h
    have hb := u8_lt b
    rw [val_snoc, be_snoc, of_add, show (val p * 256 + b.toNat) / 256 = val p by omega, be_val k p hp]
theorem be_before : ∀ (k n m : Nat), n < m → m < 256 ^ k → Before (be k n) (be k m)
  | 0, n, m, h, h2 => by simp at h2; omega
  | k + 1, n, m, h, h2 => by
    rw [be_snoc, be_snoc]
    have h3 : m / 256 < 256 ^ k := by rw [Nat.pow_succ] at h2; omega
    by_cases q : n / 256 < m / 256
    · exact (be_before k _ _ q h3).append _ _
    · have e : n / 256 = m / 256 := by omega
      rw [e]
      refine Before.prepend _ (.inl ?_)
      simp
      omega

/-! ### a number's bytes -/
def nb (n : Nat) : Nat := if n < 16777216 then 3 else if n < 4294967296 then 4 else if n < 1099511627776 then 5 else if n < 281474976710656 then 6 else if n < 72057594037927936 then 7 else 8
theorem nb_le (n : Nat) : 3 ≤ nb n ∧ nb n ≤ 8 := by unfold nb; repeat' split
                                                    all_goals omega
theorem nb_mono {n m : Nat} (h : n ≤ m) : nb n ≤ nb m := by
  unfold nb
  repeat' split
  all_goals omega
theorem nb_lt {n : Nat} (h : n < 18446744073709551616) : n < 256 ^ nb n := by
  unfold nb
  repeat' split
  all_goals simp
  all_goals omega
theorem nb_ge {n : Nat} (h : 67824 ≤ n) (i : Nat) (hi : 3 ≤ i) (hlt : i < nb n) : 256 ^ i ≤ n := by
  unfold nb at hlt
  match i, hi with
  | 3, _ => simp; split at hlt <;> omega
  | 4, _ => simp; repeat' split at hlt
            all_goals omega
  | 5, _ => simp; repeat' split at hlt
            all_goals omega
  | 6, _ => simp; repeat' split at hlt
            all_goals omega
  | 7, _ => simp; repeat' split at hlt
            all_goals omega
  | i + 8, _ => repeat' split at hlt
                all_goals omega
def whead (n : Nat) : Nat := if n ≤ 240 then n else if n ≤ 2287 then 241 + (n - 240) / 256 else if n ≤ 67823 then 249 else 247 + nb n
def wcount (n : Nat) : Nat := if n ≤ 240 then 0 else if n ≤ 2287 then 1 else if n ≤ 67823 then 2 else nb n
def wrest (n : Nat) : Nat := if n ≤ 240 then 0 else if n ≤ 2287 then (n - 240) % 256 else if n ≤ 67823 then n - 2288 else n
def wput (n : Nat) : List UInt8 := UInt8.ofNat (whead n) :: be (wcount n) (wrest n)
def wmore (c : Nat) : Nat := if c > 249 then c - 247 else if c = 249 then 2 else if c ≥ 241 then 1 else 0
def wval (c v : Nat) : Nat := if wmore c = 0 then c else if wmore c = 1 then 240 + (c - 241) * 256 + v else if wmore c = 2 then 2288 + v else v
theorem wput_length (n : Nat) : (wput n).length = 1 + wcount n := by show (be _ _).length + 1 = _; rw [be_length]; omega
theorem wcount_le (n : Nat) : wcount n ≤ 8 := by
  unfold wcount
  have := nb_le n
  repeat' split
  all_goals omega
theorem whead_lt (n : Nat) : whead n < 256 := by
  unfold whead
  have := nb_le n
  repeat' split
  all_goals omega
theorem whead_more (n : Nat) : wmore (whead n) = wcount n := by
  have := nb_le n
  unfold whead wcount wmore
  repeat' split
  all_goals omega
theorem wrest_lt {n : Nat} (h : n < 18446744073709551616) : wrest n < 256 ^ wcount n := by
  unfold wrest wcount
  repeat' split
  · simp
  · simp; omega
  · simp; omega
  · exact nb_lt h
theorem whead_val (n : Nat) : wval (whead n) (wrest n) = n := by
  have h := whead_more n
  have := nb_le n
  unfold wval
  rw [h]
  unfold wcount whead wrest
  by_cases h1 : n ≤ 240
  · simp only [if_pos h1]; simp
  · simp only [if_neg h1]
    by_cases h2 : n ≤ 2287
    · simp only [if_pos h2]; simp; omega
    · simp only [if_neg h2]
      by_cases h3 : n ≤ 67823
      · simp only [if_pos h3]; simp; omega
      · simp only [if_neg h3]
        rw [if_neg (by omega), if_neg (by omega), if_neg (by omega)]
theorem wlt {n m : Nat} (h : n < m) (hm : m < 18446744073709551616) : whead n < whead m ∨ whead n = whead m ∧ wcount n = wcount m ∧ wrest n < wrest m := by
  have h1 := nb_le n
  have h2 := nb_le m
  have h3 := nb_mono (Nat.le_of_lt h)
  unfold whead wcount wrest
  repeat' split
  all_goals omega
theorem wput_before {n m : Nat} (h : n < m) (hm : m < 18446744073709551616) : Before (wput n) (wput m) := by
  unfold wput
  rcases wlt h hm with q | ⟨q1, q2, q3⟩
  · exact .inl (by rw [toNat_of _ (whead_lt n), toNat_of _ (whead_lt m)]; exact q)
  · refine .inr ⟨by rw [q1], ?_⟩
    rw [q2]
    exact be_before _ _ _ q3 (wrest_lt hm)
/-- The number of a list of bytes, how many it has, what is wrong. -/
def wparse : List UInt8 → Nat × Nat × Int
  | [] => (0, 0, 7)
  | c :: r => if r.length < wmore c.toNat then (0, 0, 7) else if wput (wval c.toNat (val (r.take (wmore c.toNat)))) = c :: r.take (wmore c.toNat) then (wval c.toNat (val (r.take (wmore c.toNat))), 1 + wmore c.toNat, 0) else (0, 0, 3)
theorem wmore_le (c : Nat) (h : c < 256) : wmore c ≤ 8 := by
  unfold wmore
  repeat' split
  all_goals omega
theorem wval_lt (c v : Nat) (h : c < 256) (hv : v < 256 ^ wmore c) : wval c v < 18446744073709551616 := by
  have hm := wmore_le c h
  have : 256 ^ wmore c ≤ 256 ^ 8 := Nat.pow_le_pow_right (by omega) hm
  have e8 : (256 : Nat) ^ 8 = 18446744073709551616 := by decide
  rw [e8] at this
  have q1 : wmore c = 1 → v < 256 := fun e => by rw [e] at hv; simpa using hv
  have q2 : wmore c = 2 → v < 65536 := fun e => by rw [e] at hv; simpa using hv
  unfold wval
  repeat' split
  · omega
  · have := q1 (by assumption); omega
  · have := q2 (by assumption); omega
  · omega
theorem wparse_back {n : Nat} (h : n < 18446744073709551616) (x : List UInt8) : wparse (wput n ++ x) = (n, (wput n).length, 0) := by
  have e1 := toNat_of _ (whead_lt n)
  rw [show wput n ++ x = UInt8.ofNat (whead n) :: (be (wcount n) (wrest n) ++ x) from rfl]
  simp only [wparse]
  have e2 : (be (wcount n) (wrest n) ++ x).take (wcount n) = be (wcount n) (wrest n) := by rw [List.take_append_of_le_length (by rw [be_length]; exact Nat.le_refl _), List.take_of_length_le (by rw [be_length]; exact Nat.le_refl _)]
  rw [e1, whead_more, if_neg (by rw [List.length_append, be_length]; omega), e2, val_be _ _ (wrest_lt h), whead_val, if_pos (show wput n = UInt8.ofNat (whead n) :: be (wcount n) (wrest n) from rfl), wput_length]
theorem wparse_short {n : Nat} (h : n < 18446744073709551616) {j : Nat} (hj : j < (wput n).length) : wparse ((wput n).take j) = (0, 0, 7) := by
  cases j with
  | zero => rfl
  | succ j =>
    have e1 := toNat_of _ (whead_lt n)
    rw [wput_length] at hj
    rw [show (wput n).take (j + 1) = UInt8.ofNat (whead n) :: (be (wcount n) (wrest n)).take j from rfl]
    simp only [wparse]
    rw [e1, whead_more, if_pos (by rw [List.length_take, be_length]; omega)]
theorem wparse_once (l : List UInt8) : (∃ n m, wparse l = (n, m, 0) ∧ n < 18446744073709551616 ∧ 0 < m ∧ m ≤ l.length ∧ l.take m = wput n) ∨ wparse l = (0, 0, 7) ∨ wparse l = (0, 0, 3) := by
  cases l with
  | nil => exact .inr (.inl rfl)
  | cons c r =>
    simp only [wparse]
    by_cases h1 : r.length < wmore c.toNat
    · rw [if_pos h1]; exact .inr (.inl rfl)
    · rw [if_neg h1]
      by_cases h2 : wput (wval c.toNat (val (r.take (wmore c.toNat)))) = c :: r.take (wmore c.toNat)
      · rw [if_pos h2]
        refine .inl ⟨_, _, rfl, wval_lt _ _ (u8_lt c) (val_lt _ _ (by rw [List.length_take]; omega)), by omega, by show _ ≤ r.length + 1; omega, ?_⟩
        rw [h2, Nat.add_comm, List.take_succ_cons]
      · rw [if_neg h2]; exact .inr (.inr rfl)
end Go.Proofs.YthaicofleloplaaDoorCol
namespace Go.Proofs.YthaicofleloplaaDoorCol
open Go.RowKit Go.Proofs.YthaicofleloplaaDoorEv Go.Proofs.YthaicofleloplaaDoorR

/-! ### texts -/
def tcons (c : UInt8) (k : Nat) (p : List UInt8 × Nat × Int) : List UInt8 × Nat × Int := if p.2.2 = 0 then (c :: p.1, p.2.1 + k, 0) else ([], 0, p.2.2)
/-- The text of a list of bytes, how many it has, what is wrong. -/
def tparse : List UInt8 → List UInt8 × Nat × Int
  | [] => ([], 0, 7)
  | [_] => ([], 0, 7)
  | c :: d :: r => if c = 0 then (if d = 1 then ([], 2, 0) else if d = 255 then tcons 0 2 (tparse r) else ([], 0, 3)) else tcons c 1 (tparse (d :: r))
theorem tparse_ne {c : UInt8} (h : c ≠ 0) (r : List UInt8) : tparse (c :: r) = tcons c 1 (tparse r) := by
  cases r with
  | nil => rfl
  | cons d r => show (if c = 0 then _ else _) = _; rw [if_neg h]
theorem tparse_esc (r : List UInt8) : tparse (0 :: 255 :: r) = tcons 0 2 (tparse r) := by
  show (if (0 : UInt8) = 0 then (if (255 : UInt8) = 1 then _ else if (255 : UInt8) = 255 then _ else _) else _) = _
  rw [if_pos rfl, if_neg (by decide), if_pos rfl]
theorem tparse_end (r : List UInt8) : tparse (0 :: 1 :: r) = ([], 2, 0) := rfl
theorem tparse_back : ∀ (s x : List UInt8), tparse (escL s ++ 0 :: 1 :: x) = (s, (escL s).length + 2, 0)
  | [], x => rfl
  | c :: s, x => by
    have ih := tparse_back s x
    unfold escL
    by_cases h : c = 0
    · subst h
      rw [if_pos rfl]
      show tparse (0 :: 255 :: (escL s ++ 0 :: 1 :: x)) = _
      rw [tparse_esc, ih]
      rfl
    · rw [if_neg h]
      show tparse (c :: (escL s ++ 0 :: 1 :: x)) = _
      rw [tparse_ne h, ih]
      rfl
theorem tparse_short : ∀ (s : List UInt8) (j : Nat), j < (escL s).length + 2 → tparse ((escL s ++ [0, 1]).take j) = ([], 0, 7)
  | [], j, h => by
    have : j = 0 ∨ j = 1 := by simp [escL] at h; omega
    rcases this with rfl | rfl <;> rfl
  | c :: s, j, h => by
    unfold escL at h ⊢
    by_cases hc : c = 0
    · subst hc
      rw [if_pos rfl] at h ⊢
      match j, h with
      | 0, _ => rfl
      | 1, _ => rfl
      | j + 2, h =>
        have ih := tparse_short s j (by simpa using h)
        show tparse (0 :: 255 :: (escL s ++ [0, 1]).take j) = _
        rw [tparse_esc, ih]
        rfl
    · rw [if_neg hc] at h ⊢
      match j, h with
      | 0, _ => rfl
      | j + 1, h =>
        have ih := tparse_short s j (by simpa using h)
        show tparse (c :: (escL s ++ [0, 1]).take j) = _
        rw [tparse_ne hc, ih]
        rfl
def TOnce (l : List UInt8) : Prop := (∃ s m, tparse l = (s, m, 0) ∧ 0 < m ∧ m ≤ l.length ∧ l.take m = escL s ++ [0, 1]) ∨ tparse l = ([], 0, 7) ∨ tparse l = ([], 0, 3)
theorem tparse_once : ∀ (n : Nat) (l : List UInt8), l.length ≤ n → TOnce l
  | _, [], _ => .inr (.inl rfl)
  | 0, _ :: _, h => by simp at h
  | n + 1, c :: r, h => by
    have hr : r.length ≤ n := by simpa using h
    by_cases hc : c = 0
    · subst hc
      cases r with
      | nil => exact .inr (.inl rfl)
      | cons d r =>
        by_cases h1 : d = 1
        · subst h1
          exact .inl ⟨[], 2, rfl, by omega, by show 2 ≤ r.length + 2; omega, rfl⟩
        by_cases h2 : d = 255
        · subst h2
          have hr' : r.length ≤ n := by have : r.length + 1 ≤ n := hr; omega
          unfold TOnce
          rw [tparse_esc]
          rcases tparse_once n r hr' with ⟨s, m, e, p0, p1, p2⟩ | e | e
          · refine .inl ⟨0 :: s, m + 2, by rw [e]; rfl, by omega, by show m + 2 ≤ r.length + 2; omega, ?_⟩
            show 0 :: 255 :: r.take m = _
            rw [p2]
            simp [escL]
          · rw [e]; exact .inr (.inl rfl)
          · rw [e]; exact .inr (.inr rfl)
        · refine .inr (.inr ?_)
          show (if (0 : UInt8) = 0 then (if d = 1 then _ else if d = 255 then _ else _) else _) = _
          rw [if_pos rfl, if_neg h1, if_neg h2]
    · unfold TOnce
      rw [tparse_ne hc]
      rcases tparse_once n r hr with ⟨s, m, e, p0, p1, p2⟩ | e | e
      · refine .inl ⟨c :: s, m + 1, by rw [e]; rfl, by omega, by show m + 1 ≤ r.length + 1; omega, ?_⟩
        show c :: r.take m = _
        rw [p2]
        simp [escL, hc]
      · rw [e]; exact .inr (.inl rfl)
      · rw [e]; exact .inr (.inr rfl)
theorem esc_before : ∀ (s t : List UInt8), Op.bytesLess s t = true → Before (escL s ++ [0, 1]) (escL t ++ [0, 1])
  | s, [], h => by have h' := Go.Proofs.YthaicofleloplaaDoorMath.lt_nil s; rw [show Go.Proofs.YthaicofleloplaaDoorMath.lt s [] = true from h] at h'; cases h'
  | [], c :: t, _ => by
    unfold escL
    by_cases hc : c = 0
    · subst hc
      exact .inr ⟨rfl, .inl (by decide)⟩
    · rw [if_neg hc]
      refine .inl ?_
      show (0 : UInt8).toNat < c.toNat
      have : c.toNat ≠ 0 := fun q => hc (by rw [← UInt8.toNat_inj]; exact q)
      show 0 < _
      omega
  | b :: s, c :: t, h => by
    replace h : (decide (b < c) || (b == c && Op.bytesLess s t)) = true := h
    simp only [Bool.or_eq_true, decide_eq_true_eq, Bool.and_eq_true, beq_iff_eq] at h
    rcases h with h | ⟨rfl, h⟩
    · rw [UInt8.lt_iff_toNat_lt] at h
      have hc : c ≠ 0 := by rintro rfl; exact absurd h (Nat.not_lt_zero _)
      unfold escL
      rw [if_neg hc]
      by_cases hb : b = 0
      · rw [if_pos hb]; subst hb; exact .inl h
      · rw [if_neg hb]; exact .inl h
    · have ih := esc_before s t h
      unfold escL
      by_cases hb : b = 0
      · rw [if_pos hb, if_pos hb]; exact .inr ⟨rfl, .inr ⟨rfl, ih⟩⟩
      · rw [if_neg hb, if_neg hb]; exact .inr ⟨rfl, ih⟩

/-! ### columns -/
structure Cl where
  kd : Int
  i : Int
  u : Int
  s : List UInt8
theorem Cl.ext' {a b : Cl} (h1 : a.kd = b.kd) (h2 : a.i = b.i) (h3 : a.u = b.u) (h4 : a.s = b.s) : a = b := by
  cases a; cases b; simp_all
def zero : Cl := ⟨0, 0, 0, []⟩
def Right (c : Cl) : Prop := (c.kd = 0 ∧ c.i = 0 ∧ c.u = 0 ∧ c.s = []) ∨ (c.kd = 1 ∧ c.i = 0 ∧ c.u ≤ 1 ∧ c.s = []) ∨ (c.kd = 2 ∧ c.u = 0 ∧ c.s = []) ∨ (c.kd = 3 ∧ c.i = 0 ∧ c.s = []) ∨ (c.kd = 4 ∧ c.i = 0 ∧ c.u = 0)
instance (c : Cl) : Decidable (Right c) := by unfold Right; exact inferInstance
structure Bd (c : Cl) : Prop where
  i0 : -9223372036854775808 ≤ c.i
  i1 : c.i ≤ 9223372036854775807
  u0 : 0 ≤ c.u
  u1 : c.u ≤ 18446744073709551615
def chead (c : Cl) : Nat := if c.kd = 1 then (32 + c.u).toNat else (16 * (c.kd + 1)).toNat
def ctail (c : Cl) : List UInt8 := if c.kd = 2 then be 8 (c.i + 9223372036854775808).toNat else if c.kd = 3 then wput c.u.toNat else if c.kd = 4 then escL c.s ++ [0, 1] else []
def cput (c : Cl) : List UInt8 := UInt8.ofNat (chead c) :: ctail c
theorem chead_lt {c : Cl} (h : Right c) (b : Bd c) : chead c < 256 := by
  have := b.u0
  unfold chead
  rcases h with ⟨h, _⟩ | ⟨h, _, h2, _⟩ | ⟨h, _⟩ | ⟨h, _⟩ | ⟨h, _⟩ <;> rw [h] <;> simp <;> omega
/-- The column of a list of bytes, how many it has, what is wrong. -/
def cparse : List UInt8 → Cl × Nat × Int
  | [] => (zero, 0, 7)
  | c :: r =>
    if c = 16 then (zero, 1, 0)
    else if c = 32 then (⟨1, 0, 0, []⟩, 1, 0)
    else if c = 33 then (⟨1, 0, 1, []⟩, 1, 0)
    else if c = 48 then (if r.length < 8 then (zero, 0, 7) else (⟨2, (val (r.take 8) : Int) - 9223372036854775808, 0, []⟩, 9, 0))
    else if c = 64 then (if (wparse r).2.2 = 0 then (⟨3, 0, ((wparse r).1 : Int), []⟩, (wparse r).2.1 + 1, 0) else (zero, 0, (wparse r).2.2))
    else if c = 80 then (if (tparse r).2.2 = 0 then (⟨4, 0, 0, (tparse r).1⟩, (tparse r).2.1 + 1, 0) else (zero, 0, (tparse r).2.2))
    else (zero, 0, 3)
theorem cparse_48 (r : List UInt8) : cparse (48 :: r) = if r.length < 8 then (zero, 0, 7) else (⟨2, (val (r.take 8) : Int) - 9223372036854775808, 0, []⟩, 9, 0) := rfl
theorem cparse_64 (r : List UInt8) : cparse (64 :: r) = if (wparse r).2.2 = 0 then (⟨3, 0, ((wparse r).1 : Int), []⟩, (wparse r).2.1 + 1, 0) else (zero, 0, (wparse r).2.2) := rfl
theorem cparse_80 (r : List UInt8) : cparse (80 :: r) = if (tparse r).2.2 = 0 then (⟨4, 0, 0, (tparse r).1⟩, (tparse r).2.1 + 1, 0) else (zero, 0, (tparse r).2.2) := rfl
theorem cparse_back {c : Cl} (h : Right c) (b : Bd c) (x : List UInt8) : cparse (cput c ++ x) = (c, (cput c).length, 0) := by
  obtain ⟨kd, i, u, s⟩ := c
  obtain ⟨i0, i1, u0, u1⟩ := b
  simp only at i0 i1 u0 u1
  rcases h with ⟨h1, h2, h3, h4⟩ | ⟨h1, h2, h3, h4⟩ | ⟨h1, h2, h3⟩ | ⟨h1, h2, h3⟩ | ⟨h1, h2, h3⟩ <;> simp only at h1 h2 h3
  · simp only at h4; subst h1 h2 h3 h4; rfl
  · simp only at h4
    subst h1 h2 h4
    have : u = 0 ∨ u = 1 := by omega
    rcases this with rfl | rfl <;> rfl
  · subst h1 h2 h3
    have e : (i + 9223372036854775808).toNat < 256 ^ 8 := by simp; omega
    show cparse (48 :: (be 8 (i + 9223372036854775808).toNat ++ x)) = _
    have e2 : (be 8 (i + 9223372036854775808).toNat ++ x).take 8 = be 8 (i + 9223372036854775808).toNat := by
      rw [List.take_append_of_le_length (by rw [be_length]; exact Nat.le_refl _), List.take_of_length_le (by rw [be_length]; exact Nat.le_refl _)]
    rw [cparse_48, if_neg (by rw [List.length_append, be_length]; omega), e2, val_be _ _ e]
    have e3 : (((i + 9223372036854775808).toNat : Nat) : Int) - 9223372036854775808 = i := by omega
    rw [e3]
    show _ = (_, (be 8 _).length + 1, _)
    rw [be_length]
  · subst h1 h2 h3
    have hw := wparse_back (n := u.toNat) (by omega) x
    show cparse (64 :: (wput u.toNat ++ x)) = _
    rw [cparse_64, hw, if_pos rfl]
    have e3 : ((u.toNat : Nat) : Int) = u := by omega
    rw [e3]
    rfl
  · subst h1 h2 h3
    have hw := tparse_back s x
    show cparse (80 :: (escL s ++ [0, 1] ++ x)) = _
    rw [List.append_assoc]
    show cparse (80 :: (escL s ++ 0 :: 1 :: x)) = _
    rw [cparse_80, hw, if_pos rfl]
    show _ = (_, (escL s ++ [0, 1]).length + 1, _)
    rw [List.length_append]
    rfl
theorem cparse_short {c : Cl} (h : Right c) (b : Bd c) {j : Nat} (hj : j < (cput c).length) : cparse ((cput c).take j) = (zero, 0, 7) := by
  cases j with
  | zero => rfl
  | succ j =>
    obtain ⟨kd, i, u, s⟩ := c
    obtain ⟨i0, i1, u0, u1⟩ := b
    simp only at i0 i1 u0 u1
    rcases h with ⟨h1, h2, h3, h4⟩ | ⟨h1, h2, h3, h4⟩ | ⟨h1, h2, h3⟩ | ⟨h1, h2, h3⟩ | ⟨h1, h2, h3⟩ <;> simp only at h1 h2 h3
    · simp only at h4; subst h1 h2 h3 h4; simp [cput, ctail] at hj
    · simp only at h4; subst h1 h2 h4; simp [cput, ctail] at hj
    · subst h1 h2 h3
      have hj' : j < 8 := by
        have : j + 1 < (be 8 (i + 9223372036854775808).toNat).length + 1 := hj
        rw [be_length] at this; omega
      show cparse (48 :: (be 8 (i + 9223372036854775808).toNat).take j) = _
      rw [cparse_48, if_pos (by rw [List.length_take, be_length]; omega)]
    · subst h1 h2 h3
      have hj' : j < (wput u.toNat).length := by
        have : j + 1 < (wput u.toNat).length + 1 := hj
        omega
      have hw := wparse_short (n := u.toNat) (by omega) hj'
      show cparse (64 :: (wput u.toNat).take j) = _
      rw [cparse_64, hw, if_neg (by decide)]
    · subst h1 h2 h3
      have hj' : j < (escL s).length + 2 := by
        have : j + 1 < (escL s ++ [0, 1]).length + 1 := hj
        rw [List.length_append] at this
        have e : ([0, 1] : List UInt8).length = 2 := rfl
        omega
      have hw := tparse_short s j hj'
      show cparse (80 :: (escL s ++ [0, 1]).take j) = _
      rw [cparse_80, hw, if_neg (by decide)]
theorem cparse_once (l : List UInt8) : (∃ c m, cparse l = (c, m, 0) ∧ Right c ∧ Bd c ∧ 0 < m ∧ m ≤ l.length ∧ l.take m = cput c) ∨ cparse l = (zero, 0, 7) ∨ cparse l = (zero, 0, 3) := by
  cases l with
  | nil => exact .inr (.inl rfl)
  | cons c r =>
    by_cases h1 : c = 16
    · subst h1
      exact .inl ⟨zero, 1, rfl, .inl ⟨rfl, rfl, rfl, rfl⟩, ⟨by decide, by decide, by decide, by decide⟩, by omega, by simp, rfl⟩
    by_cases h2 : c = 32
    · subst h2
      exact .inl ⟨⟨1, 0, 0, []⟩, 1, rfl, .inr (.inl ⟨rfl, rfl, by decide, rfl⟩), ⟨by decide, by decide, by decide, by decide⟩, by omega, by simp, rfl⟩
    by_cases h3 : c = 33
    · subst h3
      exact .inl ⟨⟨1, 0, 1, []⟩, 1, rfl, .inr (.inl ⟨rfl, rfl, by decide, rfl⟩), ⟨by decide, by decide, by decide, by decide⟩, by omega, by simp, rfl⟩
    by_cases h4 : c = 48
    · subst h4
      rw [cparse_48]
      by_cases q : r.length < 8
      · rw [if_pos q]; exact .inr (.inl rfl)
      · rw [if_neg q]
        have hl : (r.take 8).length = 8 := by rw [List.length_take]; omega
        have hv := val_lt 8 _ hl
        have e8 : (256 : Nat) ^ 8 = 18446744073709551616 := by decide
        refine .inl ⟨_, 9, rfl, .inr (.inr (.inl ⟨rfl, rfl, rfl⟩)), ⟨by simp only; omega, by simp only; omega, by simp only; omega, by simp only; omega⟩, by omega, by show 9 ≤ r.length + 1; omega, ?_⟩
        show 48 :: r.take 8 = 48 :: be 8 ((val (r.take 8) : Int) - 9223372036854775808 + 9223372036854775808).toNat
        rw [show ((val (r.take 8) : Int) - 9223372036854775808 + 9223372036854775808).toNat = val (r.take 8) by omega, be_val 8 _ hl]
    by_cases h5 : c = 64
    · subst h5
      rw [cparse_64]
      rcases wparse_once r with ⟨n, m, e, p0, p1, p2, p3⟩ | e | e
      · rw [e, if_pos rfl]
        refine .inl ⟨_, m + 1, rfl, .inr (.inr (.inr (.inl ⟨rfl, rfl, rfl⟩))), ⟨by simp only; omega, by simp only; omega, by simp only; omega, by simp only; omega⟩, by omega, by show m + 1 ≤ r.length + 1; omega, ?_⟩
        show 64 :: r.take m = 64 :: wput (n : Int).toNat
        rw [p3, Int.toNat_natCast]
      · rw [e, if_neg (by decide)]; exact .inr (.inl rfl)
      · rw [e, if_neg (by decide)]; exact .inr (.inr rfl)
    by_cases h6 : c = 80
    · subst h6
      rw [cparse_80]
      rcases tparse_once _ r (Nat.le_refl _) with ⟨s, m, e, p0, p1, p2⟩ | e | e
      · rw [e, if_pos rfl]
        refine .inl ⟨_, m + 1, rfl, .inr (.inr (.inr (.inr ⟨rfl, rfl, rfl⟩))), ⟨by simp only; omega, by simp only; omega, by simp only; omega, by simp only; omega⟩, by omega, by show m + 1 ≤ r.length + 1; omega, ?_⟩
        show 80 :: r.take m = 80 :: (escL s ++ [0, 1])
        rw [p2]
      · rw [e, if_neg (by decide)]; exact .inr (.inl rfl)
      · rw [e, if_neg (by decide)]; exact .inr (.inr rfl)
    · refine .inr (.inr ?_)
      simp only [cparse]
      rw [if_neg h1, if_neg h2, if_neg h3, if_neg h4, if_neg h5, if_neg h6]

/-! ### the order of columns -/
def icmp (a b : Int) : Int := if a < b then -1 else if a > b then 1 else 0
def scmp (a b : List UInt8) : Int := if Op.bytesLess a b = true then -1 else if Op.bytesLess b a = true then 1 else 0
def cmpOr (a b : Int) : Int := if a ≠ 0 then a else b
theorem cmpOr_zero (b : Int) : cmpOr 0 b = b := rfl
theorem cmpOr_one (b : Int) : cmpOr 1 b = 1 := rfl
theorem cmpOr_neg (b : Int) : cmpOr (-1) b = -1 := rfl
def ccmp (a b : Cl) : Int := cmpOr (icmp a.kd b.kd) (cmpOr (icmp a.i b.i) (cmpOr (icmp a.u b.u) (scmp a.s b.s)))
theorem icmp_cases (a b : Int) : (icmp a b = -1 ∧ a < b ∧ icmp b a = 1) ∨ (icmp a b = 0 ∧ a = b ∧ icmp b a = 0) ∨ (icmp a b = 1 ∧ b < a ∧ icmp b a = -1) := by
  unfold icmp
  by_cases h : a < b
  · rw [if_pos h, if_neg (by omega), if_pos (by omega)]; exact .inl ⟨rfl, h, rfl⟩
  · by_cases h2 : a > b
    · rw [if_neg h, if_pos h2, if_pos (by omega)]; exact .inr (.inr ⟨rfl, h2, rfl⟩)
    · rw [if_neg h, if_neg h2, if_neg (by omega), if_neg (by omega)]; exact .inr (.inl ⟨rfl, by omega, rfl⟩)
theorem scmp_cases (a b : List UInt8) : (scmp a b = -1 ∧ Op.bytesLess a b = true ∧ scmp b a = 1) ∨ (scmp a b = 0 ∧ a = b ∧ scmp b a = 0) ∨ (scmp a b = 1 ∧ Op.bytesLess b a = true ∧ scmp b a = -1) := by
  unfold scmp
  rcases Go.Proofs.YthaicofleloplaaDoorMath.lt_total a b with h | h | h
  · have h2 := Go.Proofs.YthaicofleloplaaDoorMath.lt_asymm h
    exact .inl ⟨if_pos h, h, by rw [if_neg (by rw [show Op.bytesLess b a = false from h2]; decide), if_pos h]⟩
  · subst h
    have h2 : Op.bytesLess a a = false := Go.Proofs.YthaicofleloplaaDoorMath.lt_irrefl a
    rw [h2]
    exact .inr (.inl ⟨rfl, rfl, rfl⟩)
  · have h2 := Go.Proofs.YthaicofleloplaaDoorMath.lt_asymm h
    exact .inr (.inr ⟨by rw [if_neg (by rw [show Op.bytesLess a b = false from h2]; decide), if_pos h], h, if_pos h⟩)
theorem ccmp_cases (a b : Cl) : (ccmp a b = -1 ∧ ccmp b a = 1) ∨ (ccmp a b = 0 ∧ ccmp b a = 0 ∧ a = b) ∨ (ccmp a b = 1 ∧ ccmp b a = -1) := by
  unfold ccmp
  rcases icmp_cases a.kd b.kd with ⟨e, _, e'⟩ | ⟨e, h1, e'⟩ | ⟨e, _, e'⟩
  · rw [e, e']; exact .inl ⟨rfl, rfl⟩
  · rw [e, e', cmpOr_zero, cmpOr_zero]
    rcases icmp_cases a.i b.i with ⟨e, _, e'⟩ | ⟨e, h2, e'⟩ | ⟨e, _, e'⟩
    · rw [e, e']; exact .inl ⟨rfl, rfl⟩
    · rw [e, e', cmpOr_zero, cmpOr_zero]
      rcases icmp_cases a.u b.u with ⟨e, _, e'⟩ | ⟨e, h3, e'⟩ | ⟨e, _, e'⟩
      · rw [e, e']; exact .inl ⟨rfl, rfl⟩
      · rw [e, e', cmpOr_zero, cmpOr_zero]
        rcases scmp_cases a.s b.s with ⟨e, _, e'⟩ | ⟨e, h4, e'⟩ | ⟨e, _, e'⟩
        · rw [e, e']; exact .inl ⟨rfl, rfl⟩
        · rw [e, e']; exact .inr (.inl ⟨rfl, rfl, Cl.ext' h1 h2 h3 h4⟩)
        · rw [e, e']; exact .inr (.inr ⟨rfl, rfl⟩)
      · rw [e, e']; exact .inr (.inr ⟨rfl, rfl⟩)
    · rw [e, e']; exact .inr (.inr ⟨rfl, rfl⟩)
  · rw [e, e']; exact .inr (.inr ⟨rfl, rfl⟩)
theorem ctail_2 {c : Cl} (h : c.kd = 2) : ctail c = be 8 (c.i + 9223372036854775808).toNat := by unfold ctail; rw [if_pos h]
theorem ctail_3 {c : Cl} (h : c.kd = 3) : ctail c = wput c.u.toNat := by unfold ctail; rw [if_neg (by omega), if_pos h]
theorem ctail_4 {c : Cl} (h : c.kd = 4) : ctail c = escL c.s ++ [0, 1] := by unfold ctail; rw [if_neg (by omega), if_neg (by omega), if_pos h]
theorem chead_eq {c : Cl} (h : c.kd ≠ 1) : chead c = (16 * (c.kd + 1)).toNat := by unfold chead; rw [if_neg h]
theorem cput_before {c d : Cl} (hc : Right c) (hd : Right d) (bc : Bd c) (bd : Bd d) (h : ccmp c d = -1) : Before (cput c) (cput d) := by
  have lc := chead_lt hc bc
  have ld := chead_lt hd bd
  have hh : chead c < chead d → Before (cput c) (cput d) := fun q => .inl (by rw [toNat_of _ lc, toNat_of _ ld]; exact q)
  have u0 := bc.u0
  have v0 := bd.u0
  unfold ccmp at h
  rcases icmp_cases c.kd d.kd with ⟨e, k, _⟩ | ⟨e, k, _⟩ | ⟨e, k, _⟩
  · refine hh ?_
    unfold chead
    rcases hc with ⟨h1, _⟩ | ⟨h1, _, h2, _⟩ | ⟨h1, _⟩ | ⟨h1, _⟩ | ⟨h1, _⟩ <;> rcases hd with ⟨g1, _⟩ | ⟨g1, _, g2, _⟩ | ⟨g1, _⟩ | ⟨g1, _⟩ | ⟨g1, _⟩ <;> rw [h1, g1] at k <;> rw [h1, g1] <;> simp <;> omega
  · rw [e, cmpOr_zero] at h
    have he : chead c = chead d → Before (ctail c) (ctail d) → Before (cput c) (cput d) := fun q p => .inr ⟨by rw [q], p⟩
    rcases hc with ⟨h1, h2, h3, h4⟩ | ⟨h1, h2, h3, h4⟩ | ⟨h1, h2, h3⟩ | ⟨h1, h2, h3⟩ | ⟨h1, h2, h3⟩ <;> rcases hd with ⟨g1, g2, g3, g4⟩ | ⟨g1, g2, g3, g4⟩ | ⟨g1, g2, g3⟩ | ⟨g1, g2, g3⟩ | ⟨g1, g2, g3⟩ <;> first | (exfalso; omega) | skip
    · rw [h2, h3, h4, g2, g3, g4] at h; exact absurd h (by decide)
    · refine hh ?_
      rw [h2, h4, g2, g4, show icmp 0 0 = 0 from rfl, cmpOr_zero] at h
      unfold chead
      rw [if_pos h1, if_pos g1]
      rcases icmp_cases c.u d.u with ⟨e, k, _⟩ | ⟨e, k, _⟩ | ⟨e, k, _⟩
      · omega
      · rw [e] at h; exact absurd h (by decide)
      · rw [e, cmpOr_one] at h; exact absurd h (by decide)
    · rw [h2, h3, g2, g3] at h
      refine he (by rw [chead_eq (by omega), chead_eq (by omega), k]) ?_
      rw [ctail_2 h1, ctail_2 g1]
      have := bc.i0; have := bd.i1; have := bd.i0; have := bc.i1
      rcases icmp_cases c.i d.i with ⟨e, k, _⟩ | ⟨e, k, _⟩ | ⟨e, k, _⟩
      · exact be_before 8 _ _ (by omega) (by simp; omega)
      · rw [e] at h; exact absurd h (by decide)
      · rw [e] at h; exact absurd h (by decide)
    · rw [h2, h3, g2, g3, show icmp 0 0 = 0 from rfl, cmpOr_zero] at h
      refine he (by rw [chead_eq (by omega), chead_eq (by omega), k]) ?_
      rw [ctail_3 h1, ctail_3 g1]
      have := bd.u1
      rcases icmp_cases c.u d.u with ⟨e, k, _⟩ | ⟨e, k, _⟩ | ⟨e, k, _⟩
      · exact wput_before (by omega) (by omega)
      · rw [e] at h; exact absurd h (by decide)
      · rw [e] at h; exact absurd h (by decide)
    · rw [h2, h3, g2, g3, show icmp 0 0 = 0 from rfl, cmpOr_zero, cmpOr_zero] at h
      refine he (by rw [chead_eq (by omega), chead_eq (by omega), k]) ?_
      rw [ctail_4 h1, ctail_4 g1]
      rcases scmp_cases c.s d.s with ⟨e, k, _⟩ | ⟨e, k, _⟩ | ⟨e, k, _⟩
      · exact esc_before _ _ k
      · rw [e] at h; exact absurd h (by decide)
      · rw [e] at h; exact absurd h (by decide)
  · rw [e, cmpOr_one] at h; exact absurd h (by decide)
end Go.Proofs.YthaicofleloplaaDoorCol
namespace Go.Proofs.YthaicofleloplaaDoorCol
open Go.RowKit Go.Proofs.YthaicofleloplaaDoorEv Go.Proofs.YthaicofleloplaaDoorR

instance : DecidableEq Cl := fun a b => decidable_of_iff (a.kd = b.kd ∧ a.i = b.i ∧ a.u = b.u ∧ a.s = b.s) ⟨fun h => Cl.ext' h.1 h.2.1 h.2.2.1 h.2.2.2, fun h => by subst h; exact ⟨rfl, rfl, rfl, rfl⟩⟩
def body (cs : List Cl) : List UInt8 := cs.flatMap cput
def kput (cs : List Cl) : List UInt8 := body cs ++ [1]
theorem body_nil : body [] = [] := rfl
theorem body_cons (c : Cl) (cs : List Cl) : body (c :: cs) = cput c ++ body cs := by simp [body]
theorem body_append (a b : List Cl) : body (a ++ b) = body a ++ body b := by simp [body]
theorem kput_cons (c : Cl) (cs : List Cl) : kput (c :: cs) = cput c ++ kput cs := by unfold kput; rw [body_cons, List.append_assoc]
theorem kput_append (a b : List Cl) : kput (a ++ b) = body a ++ kput b := by unfold kput; rw [body_append, List.append_assoc]
def RB (cs : List Cl) : Prop := ∀ c ∈ cs, Right c ∧ Bd c
theorem RB.nil : RB [] := fun c h => by cases h
theorem RB.cons {c : Cl} {cs : List Cl} (h : Right c ∧ Bd c) (hs : RB cs) : RB (c :: cs) := fun x hx => by
  rcases List.mem_cons.mp hx with rfl | hx
  · exact h
  · exact hs x hx
theorem RB.head {c : Cl} {cs : List Cl} (h : RB (c :: cs)) : Right c ∧ Bd c := h c (List.mem_cons_self ..)
theorem RB.tail {c : Cl} {cs : List Cl} (h : RB (c :: cs)) : RB cs := fun x hx => h x (List.mem_cons_of_mem _ hx)
theorem RB.take {cs : List Cl} (h : RB cs) (n : Nat) : RB (cs.take n) := fun x hx => h x (List.mem_of_mem_take hx)
theorem RB.append {a b : List Cl} (ha : RB a) (hb : RB b) : RB (a ++ b) := fun x hx => by
  rcases List.mem_append.mp hx with hx | hx
  · exact ha x hx
  · exact hb x hx
theorem chead_ge {c : Cl} (h : Right c) (b : Bd c) : 16 ≤ chead c := by
  have := b.u0
  unfold chead
  rcases h with ⟨h, _⟩ | ⟨h, _, h2, _⟩ | ⟨h, _⟩ | ⟨h, _⟩ | ⟨h, _⟩ <;> rw [h] <;> simp <;> omega
theorem chead_ne {c : Cl} (h : Right c) (b : Bd c) : UInt8.ofNat (chead c) ≠ 1 := fun e => by
  have h1 := chead_ge h b
  have h2 := toNat_of _ (chead_lt h b)
  rw [e] at h2
  have : (1 : UInt8).toNat = 1 := rfl
  omega
theorem one_before {c : Cl} (h : Right c) (b : Bd c) : Before [1] (cput c) := .inl (by
  rw [toNat_of _ (chead_lt h b)]
  have := chead_ge h b
  show 1 < _
  omega)

/-! ### the key of bytes -/
def kparse : Nat → List UInt8 → List Cl × Int
  | 0, _ => ([], 7)
  | n + 1, l => if l = [1] then ([], 0) else if l.head? = some 1 then ([], 3) else if (cparse l).2.2 = 0 then (if (kparse n (l.drop (cparse l).2.1)).2 = 0 then ((cparse l).1 :: (kparse n (l.drop (cparse l).2.1)).1, 0) else ([], (kparse n (l.drop (cparse l).2.1)).2)) else ([], (cparse l).2.2)
theorem kparse_same : ∀ (n m : Nat) (l : List UInt8), l.length < n → l.length < m → kparse n l = kparse m l
  | 0, _, _, h, _ => absurd h (Nat.not_lt_zero _)
  | _, 0, _, _, h => absurd h (Nat.not_lt_zero _)
  | n + 1, m + 1, l, hn, hm => by
    unfold kparse
    by_cases e : (cparse l).2.2 = 0
    · rcases cparse_once l with ⟨c, j, ec, _, _, h0, h1, _⟩ | ec | ec
      · have ej : (cparse l).2.1 = j := by rw [ec]
        rw [kparse_same n m (l.drop (cparse l).2.1) (by rw [ej, List.length_drop]; omega) (by rw [ej, List.length_drop]; omega)]
      · rw [ec] at e; exact absurd e (by decide)
      · rw [ec] at e; exact absurd e (by decide)
    · rw [if_neg e, if_neg e]
def kp (l : List UInt8) : List Cl × Int := kparse (l.length + 1) l
theorem kp_end : kp [1] = ([], 0) := rfl
theorem kp_more {l : List UInt8} (h : l ≠ [1]) (h1 : l.head? = some 1) : kp l = ([], 3) := by
  unfold kp kparse
  rw [if_neg h, if_pos h1]
theorem kp_bad {l : List UInt8} (h1 : l.head? ≠ some 1) (he : (cparse l).2.2 ≠ 0) : kp l = ([], (cparse l).2.2) := by
  unfold kp kparse
  rw [if_neg (fun e => h1 (by rw [e]; rfl)), if_neg h1, if_neg he]
theorem kp_step {l : List UInt8} (h1 : l.head? ≠ some 1) {c : Cl} {m : Nat} (he : cparse l = (c, m, 0)) : kp l = if (kp (l.drop m)).2 = 0 then (c :: (kp (l.drop m)).1, 0) else ([], (kp (l.drop m)).2) := by
  have hk : kparse l.length (l.drop m) = kp (l.drop m) := by
    rcases cparse_once l with ⟨c', j, ec, _, _, h0, h2, _⟩ | ec | ec
    · rw [he] at ec
      obtain rfl : m = j := by injection ec with _ e; injection e
      exact kparse_same _ _ _ (by rw [List.length_drop]; omega) (Nat.lt_succ_self _)
    · rw [he] at ec; injection ec with _ e; injection e with _ e; exact absurd e (by decide)
    · rw [he] at ec; injection ec with _ e; injection e with _ e; exact absurd e (by decide)
  show kparse (l.length + 1) l = _
  unfold kparse
  rw [if_neg (fun e => h1 (by rw [e]; rfl)), if_neg h1, he, if_pos rfl]
  show (if (kparse l.length (l.drop m)).2 = 0 then _ else _) = _
  rw [hk]
theorem head_put {c : Cl} (h : Right c) (b : Bd c) (x : List UInt8) : (cput c ++ x).head? ≠ some 1 := fun e => chead_ne h b (Option.some.inj e)
theorem kp_cons {c : Cl} (h : Right c) (b : Bd c) (x : List UInt8) : kp (cput c ++ x) = if (kp x).2 = 0 then (c :: (kp x).1, 0) else ([], (kp x).2) := by
  rw [kp_step (head_put h b x) (cparse_back h b x), List.drop_left]
theorem kp_back : ∀ {cs : List Cl} (_ : RB cs), kp (kput cs) = (cs, 0)
  | [], _ => rfl
  | c :: cs, h => by rw [kput_cons, kp_cons h.head.1 h.head.2, kp_back h.tail, if_pos rfl]
theorem kp_over : ∀ {cs : List Cl} (_ : RB cs) {x : List UInt8} (_ : x ≠ []), kp (kput cs ++ x) = ([], 3)
  | [], _, x, hx => kp_more (fun e => hx (by injection e)) rfl
  | c :: cs, h, x, hx => by rw [kput_cons, List.append_assoc, kp_cons h.head.1 h.head.2, kp_over h.tail hx, if_neg (by decide)]
theorem kp_short : ∀ {cs : List Cl} (_ : RB cs) {j : Nat} (_ : j < (kput cs).length), kp ((kput cs).take j) = ([], 7)
  | [], _, j, hj => by
    obtain rfl : j = 0 := by have : j < 1 := hj; omega
    rfl
  | c :: cs, h, j, hj => by
    rw [kput_cons] at hj ⊢
    rw [List.length_append] at hj
    by_cases q : j < (cput c).length
    · rw [List.take_append_of_le_length (by omega)]
      have hs := cparse_short h.head.1 h.head.2 q
      rw [kp_bad ?_ (by rw [hs]; decide), hs]
      cases j with
      | zero => intro e; cases e
      | succ j => exact fun e => chead_ne h.head.1 h.head.2 (Option.some.inj e)
    · rw [List.take_append, List.take_of_length_le (by omega), kp_cons h.head.1 h.head.2, kp_short h.tail (by omega), if_neg (by decide)]
theorem kp_once : ∀ (n : Nat) (l : List UInt8), l.length ≤ n → (∃ cs, kp l = (cs, 0) ∧ RB cs ∧ l = kput cs) ∨ kp l = ([], 7) ∨ kp l = ([], 3)
  | n, l, hn => by
    by_cases h0 : l = [1]
    · exact .inl ⟨[], by rw [h0]; rfl, RB.nil, h0⟩
    by_cases h1 : l.head? = some 1
    · exact .inr (.inr (kp_more h0 h1))
    rcases cparse_once l with ⟨c, m, ec, hr, hb, p0, p1, p2⟩ | ec | ec
    · rw [kp_step h1 ec]
      cases n with
      | zero => omega
      | succ n =>
        rcases kp_once n (l.drop m) (by rw [List.length_drop]; omega) with ⟨cs, e, hcs, el⟩ | e | e
        · refine .inl ⟨c :: cs, by rw [e, if_pos rfl], RB.cons ⟨hr, hb⟩ hcs, ?_⟩
          rw [kput_cons, ← p2, ← el, List.take_append_drop]
        · rw [e]; exact .inr (.inl rfl)
        · rw [e]; exact .inr (.inr rfl)
    · rw [kp_bad h1 (by rw [ec]; decide), ec]; exact .inr (.inl rfl)
    · rw [kp_bad h1 (by rw [ec]; decide), ec]; exact .inr (.inr rfl)
theorem kp_res (l : List UInt8) : (∃ cs, kp l = (cs, 0) ∧ RB cs ∧ l = kput cs) ∨ kp l = ([], 7) ∨ kp l = ([], 3) := kp_once _ l (Nat.le_refl _)

/-! ### places -/
def places : Nat → List Cl → List Int
  | _, [] => []
  | p, c :: cs => ((p + (cput c).length : Nat) : Int) :: places (p + (cput c).length) cs
theorem places_length : ∀ (p : Nat) (cs : List Cl), (places p cs).length = cs.length
  | _, [] => rfl
  | p, c :: cs => congrArg (· + 1) (places_length _ cs)
theorem places_get : ∀ (cs : List Cl) (p k : Nat), k ≤ cs.length → ((p : Int) :: places p cs)[k]? = some ((p + (body (cs.take k)).length : Nat) : Int)
  | cs, p, 0, _ => by simp [body]
  | [], p, k + 1, h => absurd h (Nat.not_succ_le_zero _)
  | c :: cs, p, k + 1, h => by
    have := places_get cs (p + (cput c).length) k (by simpa using h)
    rw [List.getElem?_cons_succ]
    show (((p + (cput c).length : Nat) : Int) :: places (p + (cput c).length) cs)[k]? = _
    rw [this, List.take_succ_cons, body_cons, List.length_append, Nat.add_assoc]

/-! ### the order -/
def kcmp : List Cl → List Cl → Int
  | [], [] => 0
  | [], _ :: _ => -1
  | _ :: _, [] => 1
  | a :: xs, b :: ys => cmpOr (ccmp a b) (kcmp xs ys)
theorem kcmp_cases : ∀ (xs ys : List Cl), (kcmp xs ys = -1 ∧ kcmp ys xs = 1) ∨ (kcmp xs ys = 0 ∧ kcmp ys xs = 0 ∧ xs = ys) ∨ (kcmp xs ys = 1 ∧ kcmp ys xs = -1)
  | [], [] => .inr (.inl ⟨rfl, rfl, rfl⟩)
  | [], _ :: _ => .inl ⟨rfl, rfl⟩
  | _ :: _, [] => .inr (.inr ⟨rfl, rfl⟩)
  | a :: xs, b :: ys => by
    unfold kcmp
    rcases ccmp_cases a b with ⟨e, e'⟩ | ⟨e, e', q⟩ | ⟨e, e'⟩
    · rw [e, e']; exact .inl ⟨rfl, rfl⟩
    · rw [e, e', cmpOr_zero, cmpOr_zero]
      rcases kcmp_cases xs ys with ⟨k, k'⟩ | ⟨k, k', q'⟩ | ⟨k, k'⟩
      · exact .inl ⟨k, k'⟩
      · exact .inr (.inl ⟨k, k', by rw [q, q']⟩)
      · exact .inr (.inr ⟨k, k'⟩)
    · rw [e, e']; exact .inr (.inr ⟨rfl, rfl⟩)
theorem kcmp_self (xs : List Cl) : kcmp xs xs = 0 := by rcases kcmp_cases xs xs with ⟨h, k⟩ | ⟨h, _⟩ | ⟨h, k⟩ <;> omega
theorem kput_before : ∀ {xs ys : List Cl} (_ : RB xs) (_ : RB ys) (_ : kcmp xs ys = -1), Before (kput xs) (kput ys)
  | [], [], _, _, h => absurd h (by decide)
  | [], b :: ys, _, hb, _ => by
    rw [kput_cons]
    have := (one_before hb.head.1 hb.head.2).append [] (kput ys)
    exact this
  | _ :: _, [], _, _, h => absurd (show (1 : Int) = -1 from h) (by decide)
  | a :: xs, b :: ys, ha, hb, h => by
    rw [kput_cons, kput_cons]
    unfold kcmp at h
    rcases ccmp_cases a b with ⟨e, e'⟩ | ⟨e, e', q⟩ | ⟨e, e'⟩
    · exact (cput_before ha.head.1 hb.head.1 ha.head.2 hb.head.2 e).append _ _
    · rw [e, cmpOr_zero] at h
      rw [q]
      exact (kput_before ha.tail hb.tail h).prepend _
    · rw [e, cmpOr_one] at h; exact absurd h (by decide)
/-- What the law asks of a comparison and two lists of bytes. -/
structure Ord (c : Int) (l m : List UInt8) : Prop where
  less : (decide (c < 0) == Op.bytesLess l m) = true
  same : ((c == 0) == (l == m)) = true
  pre : (m.take l.length = l) ∨ (l.take m.length = m) → c = 0
  eq : c = 0 → l = m
  behind : ∀ x y, c ≠ 0 → (decide (c < 0) == Op.bytesLess (l ++ x) (m ++ y)) = true
theorem ord_of {a b : List Cl} (ra : RB a) (rb : RB b) : Ord (kcmp a b) (kput a) (kput b) := by
  rcases kcmp_cases a b with ⟨h, _⟩ | ⟨h, _, e⟩ | ⟨h, k⟩
  · have hb := kput_before ra rb h
    rw [h]
    exact ⟨by rw [hb.less]; rfl, by rw [beq_eq_false_iff_ne.mpr hb.ne]; rfl, fun q => by rcases q with q | q; exact absurd q hb.not_prefix.1; exact absurd q hb.not_prefix.2, fun q => by omega, fun x y _ => by rw [(hb.append x y).less]; rfl⟩
  · subst e
    rw [h]
    exact ⟨by rw [show Op.bytesLess (kput a) (kput a) = false from Go.Proofs.YthaicofleloplaaDoorMath.lt_irrefl _]; rfl, by simp, fun _ => rfl, fun _ => rfl, fun _ _ q => absurd rfl q⟩
  · have hb := kput_before rb ra k
    rw [h]
    exact ⟨by rw [hb.not_less]; rfl, by rw [beq_eq_false_iff_ne.mpr hb.ne.symm]; rfl, fun q => by rcases q with q | q; exact absurd q hb.not_prefix.2; exact absurd q hb.not_prefix.1, fun q => by omega, fun x y _ => by rw [(hb.append y x).not_less]; rfl⟩
/-- The comparison of the first ones, then of the lengths. -/
theorem kcmp_cut : ∀ (xs ys : List Cl), cmpOr (kcmp (xs.take (min xs.length ys.length)) (ys.take (min xs.length ys.length))) (icmp xs.length ys.length) = kcmp xs ys
  | [], [] => rfl
  | [], b :: ys => by
    show icmp (0 : Nat) ((ys.length + 1 : Nat) : Int) = -1
    unfold icmp
    rw [if_pos (by omega)]
  | a :: xs, [] => by
    show icmp ((xs.length + 1 : Nat) : Int) (0 : Nat) = 1
    unfold icmp
    rw [if_neg (by omega), if_pos (by omega)]
  | a :: xs, b :: ys => by
    have ih := kcmp_cut xs ys
    have em : min (a :: xs).length (b :: ys).length = min xs.length ys.length + 1 := by simp only [List.length_cons]; omega
    have ei : icmp ((a :: xs).length : Nat) ((b :: ys).length : Nat) = icmp (xs.length : Nat) (ys.length : Nat) := by
      have l1 : (a :: xs).length = xs.length + 1 := rfl
      have l2 : (b :: ys).length = ys.length + 1 := rfl
      unfold icmp
      rw [l1, l2]
      repeat' split
      all_goals omega
    rw [em, ei, List.take_succ_cons, List.take_succ_cons]
    unfold kcmp
    rw [← ih]
    unfold cmpOr
    by_cases h : ccmp a b = 0
    · simp [h]
    · simp [h]
/-- A key's first columns' bytes begin just the keys that begin with them. -/
theorem body_pre : ∀ {xs ys : List Cl} (_ : RB xs) (_ : RB ys), (kput ys).take (body xs).length = body xs ↔ ys.take xs.length = xs
  | [], ys, _, _ => by simp [body]
  | a :: xs, [], ha, _ => by
    constructor
    · intro h
      have hb := ((one_before ha.head.1 ha.head.2).append [] (body xs)).not_prefix.2
      rw [body_cons] at h
      have h2 : (kput []).take (cput a ++ body xs).length = kput [] := List.take_of_length_le (by
        show 1 ≤ _
        rw [List.length_append]
        have : (cput a).length = (ctail a).length + 1 := rfl
        omega)
      rw [h2] at h
      have := chead_ne ha.head.1 ha.head.2
      exact absurd (by injection h with h _; exact h.symm) this
    · intro h; cases h
  | a :: xs, b :: ys, ha, hb => by
    have ih := body_pre ha.tail hb.tail
    rw [body_cons, kput_cons, List.length_cons, List.take_succ_cons, List.cons.injEq]
    rcases ccmp_cases a b with ⟨e, _⟩ | ⟨_, _, q⟩ | ⟨_, e⟩
    · have hn := ((cput_before ha.head.1 hb.head.1 ha.head.2 hb.head.2 e).append (body xs) (kput ys)).not_prefix.1
      refine ⟨fun h => absurd h hn, fun h => ?_⟩
      rw [h.1] at e
      rcases ccmp_cases a a with ⟨k, k'⟩ | ⟨k, _⟩ | ⟨k, k'⟩ <;> omega
    · subst q
      rw [← ih, List.length_append, List.take_append, List.take_of_length_le (by omega), Nat.add_sub_cancel_left]
      exact ⟨fun h => ⟨rfl, List.append_cancel_left h⟩, fun h => by rw [h.2]⟩
    · have hn := ((cput_before hb.head.1 ha.head.1 hb.head.2 ha.head.2 e).append (kput ys) (body xs)).not_prefix.2
      refine ⟨fun h => absurd h hn, fun h => ?_⟩
      rw [h.1] at e
      rcases ccmp_cases a a with ⟨k, k'⟩ | ⟨k, _⟩ | ⟨k, k'⟩ <;> omega
/-- Behind a key that another one does not begin with, nothing changes. -/
theorem kcmp_more : ∀ (xs ys x : List Cl), ys.take xs.length ≠ xs → kcmp (xs ++ x) ys = kcmp xs ys
  | [], ys, x, h => absurd (by simp) h
  | a :: xs, [], x, _ => rfl
  | a :: xs, b :: ys, x, h => by
    show cmpOr (ccmp a b) (kcmp (xs ++ x) ys) = cmpOr (ccmp a b) (kcmp xs ys)
    rcases ccmp_cases a b with ⟨e, _⟩ | ⟨e, _, q⟩ | ⟨e, _⟩
    · rw [e]; rfl
    · rw [e, cmpOr_zero, cmpOr_zero]
      exact kcmp_more xs ys x (fun k => h (by rw [List.length_cons, List.take_succ_cons, k, q]))
    · rw [e]; rfl
theorem kcmp_pre : ∀ (xs : List Cl) (c : Cl) (x : List Cl), kcmp xs (xs ++ c :: x) = -1
  | [], _, _ => rfl
  | a :: xs, c, x => by
    show cmpOr (ccmp a a) (kcmp xs (xs ++ c :: x)) = -1
    rcases ccmp_cases a a with ⟨k, k'⟩ | ⟨k, _⟩ | ⟨k, k'⟩
    · omega
    · rw [k, cmpOr_zero]; exact kcmp_pre xs c x
    · omega
theorem kput_len : ∀ {cs : List Cl} (_ : ∀ c ∈ cs, (cput c).length ≤ 200), (body cs).length ≤ 200 * cs.length
  | [], _ => by simp [body]
  | c :: cs, h => by
    have := kput_len (cs := cs) fun x hx => h x (List.mem_cons_of_mem _ hx)
    have := h c (List.mem_cons_self ..)
    rw [body_cons, List.length_append, List.length_cons]
    omega
end Go.Proofs.YthaicofleloplaaDoorCol
namespace Go.Proofs.YthaicofleloplaaDoor.Spec
open Go.RowKit Go.Proofs.YthaicofleloplaaDoorW.PrintWords Go.Proofs.YthaicofleloplaaDoorW.PrintLast Go.Proofs.YthaicofleloplaaDoorW.PrintMore Go.Proofs.YthaicofleloplaaDoorEv Go.Proofs.YthaicofleloplaaDoorCol Go.Proofs.YthaicofleloplaaDoorR Go.Proofs.YthaicofleloplaaDoor.P

def B (l : List UInt8) : ByteArray := ⟨l.toArray⟩
theorem B_L (l : List UInt8) : L (B l) = l := by simp [B]
theorem B_size (l : List UInt8) : (B l).size = l.length := by rw [← L_length, B_L]
theorem B_self (s : ByteArray) : B (L s) = s := L_inj (B_L _)
/-- bytes as numbers -/
def ns (l : List UInt8) : List Int := l.map fun b => (b.toNat : Int)
theorem ns_append (a b : List UInt8) : ns (a ++ b) = ns a ++ ns b := List.map_append
theorem ns_length (l : List UInt8) : (ns l).length = l.length := List.length_map ..
theorem str_ns (l : List UInt8) : strOfNums (ns l) = B l := L_inj (by
  rw [B_L]
  show (strOfNums _).data.toList = _
  rw [strOfNums_data]
  unfold ns
  rw [List.map_map]
  conv => rhs; rw [← List.map_id l]
  refine List.map_congr_left fun b _ => ?_
  simp)
theorem ns_of (n : Nat) : ((n : Int) % 256) = ((UInt8.ofNat n).toNat : Int) := by simp
theorem str_one (n : Nat) : strOfNums [(n : Int) % 256] = B [UInt8.ofNat n] := by rw [ns_of]; exact str_ns [UInt8.ofNat n]
theorem ofMod (n : Nat) : UInt8.ofNat (n % 256) = UInt8.ofNat n := of_mod n

/-! ### which may be -/
def onlyV (a0 a1 a2 : Int) (s : ByteArray) : Int × Int × Int × ByteArray := if a0 = 1 ∨ a0 = 3 then (a0, 0, a2, ⟨#[]⟩) else if a0 = 2 then (2, a1, 0, ⟨#[]⟩) else if a0 = 4 then (4, 0, 0, s) else (a0, 0, 0, ⟨#[]⟩)
theorem only_ev (a0 a1 a2 : Int) (s : ByteArray) : Ev (fun k => col_only.f k a0 a1 a2 s) (onlyV a0 a1 a2 s) := by
  unfold col_only.f
  by_cases h1 : a0 = 1
  · have e : onlyV a0 a1 a2 s = (a0, 0, a2, ⟨#[]⟩) := by unfold onlyV; rw [if_pos (.inl h1)]
    rw [e]
    refine ev_pos h1 (ev_step ?_)
    simp only [col_only.j0]
    exact ev_pos (by simp [h1]) ev_some
  · refine ev_neg h1 (ev_step ?_)
    simp only [col_only.j0]
    by_cases h3 : a0 = 3
    · have e : onlyV a0 a1 a2 s = (a0, 0, a2, ⟨#[]⟩) := by unfold onlyV; rw [if_pos (.inr h3)]
      rw [e]
      exact ev_pos (by simp [h3]) ev_some
    · refine ev_neg (by simp [h3]) ?_
      by_cases h2 : a0 = 2
      · have e : onlyV a0 a1 a2 s = (2, a1, 0, ⟨#[]⟩) := by unfold onlyV; rw [if_neg (by omega), if_pos h2]
        rw [e]
        exact ev_pos h2 ev_some
      · by_cases h4 : a0 = 4
        · have e : onlyV a0 a1 a2 s = (4, 0, 0, s) := by unfold onlyV; rw [if_neg (by omega), if_neg h2, if_pos h4]
          rw [e]
          exact ev_neg h2 (ev_pos h4 ev_some)
        · have e : onlyV a0 a1 a2 s = (a0, 0, 0, ⟨#[]⟩) := by unfold onlyV; rw [if_neg (by omega), if_neg h2, if_neg h4]
          rw [e]
          exact ev_neg h2 (ev_neg h4 ev_some)
theorem L_empty : L (⟨#[]⟩ : ByteArray) = [] := rfl
theorem right_ev (a0 a1 a2 : Int) (s : ByteArray) (h2 : 0 ≤ a2) : Ev (fun k => col_Right.f k a0 a1 a2 s) (decide (Right ⟨a0, a1, a2, L s⟩)) := by
  unfold col_Right.f
  by_cases h : a0 ≥ 0
  rotate_left
  · refine ev_neg h (ev_some' ?_)
    exact (decide_eq_false (by unfold Right; simp only; omega)).symm
  refine ev_pos h ?_
  by_cases h5 : a0 < 5
  rotate_left
  · refine ev_neg h5 (ev_some' ?_)
    exact (decide_eq_false (by unfold Right; simp only; omega)).symm
  refine ev_pos h5 (ev_bind (only_ev a0 a1 a2 s) (ev_const ?_))
  have : a0 = 0 ∨ a0 = 1 ∨ a0 = 2 ∨ a0 = 3 ∨ a0 = 4 := by omega
  rcases this with rfl | rfl | rfl | rfl | rfl
  · rw [show onlyV 0 a1 a2 s = (0, 0, 0, ⟨#[]⟩) from rfl]
    simp only [L_toList, L_empty]
    generalize L s = l
    by_cases q1 : a1 = 0 <;> by_cases q2 : a2 = 0 <;> cases l <;> simp [Right, q1, q2]
  · rw [show onlyV 1 a1 a2 s = (1, 0, a2, ⟨#[]⟩) from rfl]
    simp only [L_toList, L_empty]
    generalize L s = l
    by_cases q1 : a1 = 0 <;> by_cases q2 : a2 = 0 <;> cases l <;> simp [Right, q1, q2]
  · rw [show onlyV 2 a1 a2 s = (2, a1, 0, ⟨#[]⟩) from rfl]
    simp only [L_toList, L_empty]
    generalize L s = l
    by_cases q1 : a1 = 0 <;> by_cases q2 : a2 = 0 <;> cases l <;> simp [Right, q1, q2]
  · rw [show onlyV 3 a1 a2 s = (3, 0, a2, ⟨#[]⟩) from rfl]
    simp only [L_toList, L_empty]
    generalize L s = l
    by_cases q1 : a1 = 0 <;> by_cases q2 : a2 = 0 <;> cases l <;> simp [Right, q1, q2]
  · rw [show onlyV 4 a1 a2 s = (4, 0, 0, s) from rfl]
    simp only [L_toList, L_empty]
    generalize L s = l
    by_cases q1 : a1 = 0 <;> by_cases q2 : a2 = 0 <;> cases l <;> simp [Right, q1, q2]
theorem rright_eq (a0 a1 a2 : Int) (s : ByteArray) : withyref03_Right.f a0 a1 a2 s = some (decide (Right ⟨a0, a1, a2, L s⟩)) := by
  unfold withyref03_Right.f
  simp only [L_toList]
  generalize L s = l
  by_cases c0 : a0 = 0
  · subst c0; by_cases q1 : a1 = 0 <;> by_cases q2 : a2 = 0 <;> cases l <;> simp [Right, q1, q2]
  by_cases c1 : a0 = 1
  · subst c1; by_cases q1 : a1 = 0 <;> by_cases q2 : a2 ≤ 1 <;> cases l <;> simp [Right, q1, q2]
  by_cases c2 : a0 = 2
  · subst c2; by_cases q1 : a1 = 0 <;> by_cases q2 : a2 = 0 <;> cases l <;> simp [Right, q1, q2]
  by_cases c3 : a0 = 3
  · subst c3; by_cases q1 : a1 = 0 <;> by_cases q2 : a2 = 0 <;> cases l <;> simp [Right, q1, q2]
  by_cases c4 : a0 = 4
  · subst c4; by_cases q1 : a1 = 0 <;> by_cases q2 : a2 = 0 <;> cases l <;> simp [Right, q1, q2]
  · simp [Right, c0, c1, c2, c3, c4]

/-! ### which one is ahead -/
theorem cmpI_eq (a b : Int) : cmp_Compare_int.f a b = some (icmp a b) := by
  unfold cmp_Compare_int.f cmp_isNaN_int.f icmp
  by_cases h : a < b <;> by_cases h2 : a > b <;> simp [h, h2]
theorem cmpI64_eq (a b : Int) : cmp_Compare_int64.f a b = some (icmp a b) := by
  unfold cmp_Compare_int64.f cmp_isNaN_int64.f icmp
  by_cases h : a < b <;> by_cases h2 : a > b <;> simp [h, h2]
theorem cmpU64_eq (a b : Int) : cmp_Compare_uint64.f a b = some (icmp a b) := by
  unfold cmp_Compare_uint64.f cmp_isNaN_uint64.f icmp
  by_cases h : a < b <;> by_cases h2 : a > b <;> simp [h, h2]
theorem scmp_eq : ∀ (a b : List UInt8), Lib.compareBytes a b = scmp a b
  | [], [] => rfl
  | [], _ :: _ => rfl
  | _ :: _, [] => rfl
  | a :: al, b :: bl => by
    have ih := scmp_eq al bl
    unfold scmp at ih ⊢
    show (if a < b then -1 else if b < a then 1 else Lib.compareBytes al bl) = if (decide (a < b) || (a == b && Op.bytesLess al bl)) = true then -1 else if (decide (b < a) || (b == a && Op.bytesLess bl al)) = true then 1 else 0
    rcases Go.Proofs.YthaicofleloplaaDoorMath.u8_total a b with h | h | h
    · simp [h]
    · subst h
      have := Go.Proofs.YthaicofleloplaaDoorMath.u8_lt_irrefl a
      simp [this, ih]
    · have h2 := Go.Proofs.YthaicofleloplaaDoorMath.u8_lt_asymm h
      have h3 : ¬ a = b := fun e => Go.Proofs.YthaicofleloplaaDoorMath.u8_ne_of_lt h e.symm
      simp [h, h2, h3]
theorem or_ev (a b c d : Int) : Ev (fun k => cmp_Or_int.f k [a, b, c, d]) (cmpOr a (cmpOr b (cmpOr c d))) := by
  unfold cmp_Or_int.f
  refine ev_step ?_
  simp only [cmp_Or_int.l0, List.length_cons, List.length_nil]
  refine ev_pos (by omega) (ev_pos (by omega) (ev_pos (by omega) ?_))
  rw [show rd [a, b, c, d] 0 = a from rfl]
  unfold cmpOr
  by_cases ha : a = 0
  rotate_left
  · exact ev_neg ha (ev_some' (by rw [if_pos ha]))
  refine ev_pos ha (ev_step ?_)
  rw [if_neg (by simp [ha])]
  simp only [cmp_Or_int.l0, show wrap64 (0 + 1) = 1 by rw [w64 (by omega) (by omega)]; rfl]
  refine ev_pos (by omega) (ev_pos (by omega) (ev_pos (by simp) ?_))
  rw [show rd [a, b, c, d] 1 = b from rfl]
  by_cases hb : b = 0
  rotate_left
  · exact ev_neg hb (ev_some' (by rw [if_pos hb]))
  refine ev_pos hb (ev_step ?_)
  rw [if_neg (by simp [hb])]
  simp only [cmp_Or_int.l0, show wrap64 (1 + 1) = 2 by rw [w64 (by omega) (by omega)]; rfl]
  refine ev_pos (by omega) (ev_pos (by omega) (ev_pos (by simp) ?_))
  rw [show rd [a, b, c, d] 2 = c from rfl]
  by_cases hc : c = 0
  rotate_left
  · exact ev_neg hc (ev_some' (by rw [if_pos hc]))
  refine ev_pos hc (ev_step ?_)
  rw [if_neg (by simp [hc])]
  simp only [cmp_Or_int.l0, show wrap64 (2 + 1) = 3 by rw [w64 (by omega) (by omega)]; rfl]
  refine ev_pos (by omega) (ev_pos (by omega) (ev_pos (by simp) ?_))
  rw [show rd [a, b, c, d] 3 = d from rfl]
  by_cases hd : d = 0
  rotate_left
  · exact ev_neg hd (ev_some' rfl)
  refine ev_pos hd (ev_step ?_)
  simp only [cmp_Or_int.l0, show wrap64 (3 + 1) = 4 by rw [w64 (by omega) (by omega)]; rfl]
  exact ev_neg (by omega) (ev_some' hd.symm)
theorem compare_ev (a0 a1 a2 : Int) (s : ByteArray) (b0 b1 b2 : Int) (t : ByteArray) : Ev (fun k => col_Compare.f k a0 a1 a2 s b0 b1 b2 t) (ccmp ⟨a0, a1, a2, L s⟩ ⟨b0, b1, b2, L t⟩) := by
  unfold col_Compare.f
  refine ev_bind_now (cmpI_eq _ _) (ev_bind_now (cmpI64_eq _ _) (ev_bind_now (cmpU64_eq _ _) (ev_bind_now (a := scmp (L s) (L t)) (by unfold strings_Compare.f; rw [scmp_eq]) (ev_bind (or_ev _ _ _ _) ev_some))))

/-! ### a number's bytes -/
theorem be_get : ∀ (k n i : Nat), i < k → (be k n)[i]? = some (UInt8.ofNat (n / 256 ^ (k - 1 - i)))
  | 0, _, i, h => by omega
  | k + 1, n, 0, h => by simp [be]
  | k + 1, n, i + 1, h => by
    show (be k n)[i]? = _
    rw [be_get k n i (by omega), show k + 1 - 1 - (i + 1) = k - 1 - i by omega]
theorem pow_shift (j : Nat) : (2 : Nat) ^ (8 * j) = 256 ^ j := by rw [Nat.pow_mul]
theorem shr_eq (n j : Nat) (h : j ≤ 7) : shr .u64 (n : Int) ((8 * j : Nat) : Int) = ((n / 256 ^ j : Nat) : Int) := by
  unfold shr
  have e : IntKind.u64.bits = 64 := rfl
  rw [Int.toNat_natCast, Nat.min_eq_left (by rw [e]; omega), ← pow_shift, Int.natCast_ediv, Int.natCast_pow]
  rfl
theorem wput_loop (n kk : Nat) (hk : kk ≤ 8) (hd : UInt8) : ∀ (d i : Nat), i ≤ kk → kk - i = d → Ev (fun k => word_Put.l1 k (n : Int) (kk : Int) (ns (hd :: (be kk n).take i)) (kk : Int) (i : Int)) (B (hd :: be kk n)) := by
  intro d
  induction d with
  | zero =>
    intro i hi hd'
    obtain rfl : i = kk := by omega
    refine ev_step ?_
    simp only [word_Put.l1]
    refine ev_neg (by omega) (ev_some' ?_)
    rw [List.take_of_length_le (by rw [be_length]; exact Nat.le_refl _), str_ns]
  | succ d ih =>
    intro i hi hd'
    refine ev_step ?_
    simp only [word_Put.l1]
    have e1 : wrap64 (8 * wrap64 (wrap64 ((kk : Int) - 1) - (i : Int))) = ((8 * (kk - 1 - i) : Nat) : Int) := by
      rw [w64 (x := (kk : Int) - 1) (by omega) (by omega), w64 (x := (kk : Int) - 1 - (i : Int)) (by omega) (by omega), w64 (by omega) (by omega)]; omega
    rw [e1, shr_eq n (kk - 1 - i) (by omega), ns_of]
    refine ev_pos (by omega) (ev_pos (by omega) (ev_pos (by rw [ns_length, List.length_cons, List.length_take, be_length]; omega) ?_))
    rw [w64_succ (by omega)]
    have e2 : ns (hd :: (be kk n).take i) ++ [((UInt8.ofNat (n / 256 ^ (kk - 1 - i))).toNat : Int)] = ns (hd :: (be kk n).take (i + 1)) := by
      rw [List.take_add_one, be_get kk n i (by omega)]
      show _ = ns ((hd :: (be kk n).take i) ++ [UInt8.ofNat (n / 256 ^ (kk - 1 - i))])
      rw [ns_append]
      rfl
    rw [e2]
    exact ih (i + 1) (by omega) (by omega)
theorem wput_head (n : Nat) (hn : 67823 < n) (h : n < 18446744073709551616) : ∀ (d j : Nat), 3 ≤ j → j ≤ nb n → nb n - j = d → Ev (fun k => word_Put.l0 k (n : Int) (j : Int)) (B (wput n)) := by
  have hb := nb_le n
  have fin : Ev (fun k => word_Put.j1 k (n : Int) (nb n : Int)) (B (wput n)) := by
    refine ev_step ?_
    simp only [word_Put.j1]
    have e : (wrap64 (247 + (nb n : Int))) % 256 = ((UInt8.ofNat (247 + nb n)).toNat : Int) := by
      rw [w64 (by omega) (by omega), ← ns_of]; generalize nb n = q; omega
    have := wput_loop n (nb n) hb.2 (UInt8.ofNat (247 + nb n)) _ 0 (Nat.zero_le _) rfl
    rw [e]
    have ew : wput n = UInt8.ofNat (247 + nb n) :: be (nb n) n := by
      unfold wput whead wcount wrest
      rw [if_neg (by omega), if_neg (by omega), if_neg (by omega), if_neg (by omega), if_neg (by omega), if_neg (by omega), if_neg (by omega), if_neg (by omega), if_neg (by omega)]
    rw [ew]
    exact this
  intro d
  induction d with
  | zero =>
    intro j h3 hj hd
    obtain rfl : j = nb n := by omega
    refine ev_step ?_
    simp only [word_Put.l0]
    by_cases h8 : nb n < 8
    · refine ev_pos (by omega) ?_
      rw [show wrap64 (8 * (nb n : Int)) = ((8 * nb n : Nat) : Int) by rw [w64 (by omega) (by omega)]; omega, shr_eq n (nb n) (by omega), Nat.div_eq_of_lt (nb_lt h)]
      exact ev_pos (by omega) (ev_neg (by omega) fin)
    · exact ev_neg (by omega) fin
  | succ d ih =>
    intro j h3 hj hd
    refine ev_step ?_
    simp only [word_Put.l0]
    have hg := nb_ge (n := n) (by omega) j h3 (by omega)
    refine ev_pos (by omega) ?_
    rw [show wrap64 (8 * (j : Int)) = ((8 * j : Nat) : Int) by rw [w64 (by omega) (by omega)]; omega, shr_eq n j (by omega), w64_succ (by omega)]
    refine ev_pos (by omega) (ev_pos ?_ (ih (j + 1) (by omega) (by omega) (by omega)))
    have : 0 < n / 256 ^ j := Nat.div_pos hg (Nat.pow_pos (by omega))
    omega
theorem u64_in {x : Int} (h0 : 0 ≤ x) (h1 : x < 18446744073709551616) : IntKind.u64.wrap x = x := by rw [IntKind.wrap_u64]; omega
theorem put_ev (n : Nat) (h : n < 18446744073709551616) : Ev (fun k => word_Put.f k (n : Int)) (B (wput n)) := by
  unfold word_Put.f
  by_cases h1 : n ≤ 240
  · refine ev_pos (by omega) (ev_some' ?_)
    rw [str_one]
    congr 1
    unfold wput whead wcount
    rw [if_pos h1, if_pos h1]
    rfl
  refine ev_neg (by omega) ?_
  by_cases h2 : n ≤ 2287
  · refine ev_pos (by omega) (ev_some' ?_)
    rw [u64_in (x := (n : Int) - 240) (by omega) (by omega), u64_in (by omega) (by omega)]
    rw [show (241 + ((n : Int) - 240) / 256) = ((241 + (n - 240) / 256 : Nat) : Int) by omega, show (n : Int) - 240 = ((n - 240 : Nat) : Int) by omega, ns_of, ns_of]
    rw [show [((UInt8.ofNat (241 + (n - 240) / 256)).toNat : Int), ((UInt8.ofNat (n - 240)).toNat : Int)] = ns [UInt8.ofNat (241 + (n - 240) / 256), UInt8.ofNat (n - 240)] from rfl, str_ns]
    congr 1
    unfold wput whead wcount wrest
    rw [if_neg h1, if_pos h2, if_neg h1, if_pos h2, if_neg h1, if_pos h2]
    simp [be, ofMod]
  refine ev_neg (by omega) ?_
  by_cases h3 : n ≤ 67823
  · refine ev_pos (by omega) (ev_some' ?_)
    rw [u64_in (x := (n : Int) - 2287) (by omega) (by omega), u64_in (x := (n : Int) - 2287 - 1) (by omega) (by omega)]
    rw [show ((n : Int) - 2287 - 1) / 256 = (((n - 2288) / 256 : Nat) : Int) by omega, show (n : Int) - 2287 - 1 = ((n - 2288 : Nat) : Int) by omega, ns_of, ns_of]
    rw [show [249, ((UInt8.ofNat ((n - 2288) / 256)).toNat : Int), ((UInt8.ofNat (n - 2288)).toNat : Int)] = ns [249, UInt8.ofNat ((n - 2288) / 256), UInt8.ofNat (n - 2288)] from rfl, str_ns]
    congr 1
    unfold wput whead wcount wrest
    rw [if_neg h1, if_neg h2, if_pos h3, if_neg h1, if_neg h2, if_pos h3, if_neg h1, if_neg h2, if_pos h3]
    simp [be]
  · refine ev_neg (by omega) ?_
    exact wput_head n (by omega) h _ 3 (by omega) (nb_le n).1 rfl
theorem wide_eq (n : Nat) : col_wide.f (n : Int) = some (B (be 8 n)) := by
  unfold col_wide.f
  refine congrArg some ?_
  rw [← str_ns]
  congr 1
end Go.Proofs.YthaicofleloplaaDoor.Spec
namespace Go.Proofs.YthaicofleloplaaDoor.Spec
open Go.RowKit Go.Proofs.YthaicofleloplaaDoorW.PrintWords Go.Proofs.YthaicofleloplaaDoorW.PrintLast Go.Proofs.YthaicofleloplaaDoorW.PrintMore Go.Proofs.YthaicofleloplaaDoorEv Go.Proofs.YthaicofleloplaaDoorCol Go.Proofs.YthaicofleloplaaDoorR Go.Proofs.YthaicofleloplaaDoor.P

theorem xor_hi (x : Nat) (h : x < 9223372036854775808) : x ^^^ 9223372036854775808 = x + 9223372036854775808 := by
  have e : (9223372036854775808 : Nat) = 2 ^ 63 := by decide
  rw [e] at h ⊢
  apply Nat.eq_of_testBit_eq
  intro i
  rw [Nat.testBit_xor, Nat.add_comm]
  rcases Nat.lt_trichotomy i 63 with q | q | q
  · rw [Nat.testBit_two_pow_add_gt q, Nat.testBit_two_pow_of_ne (by omega)]; simp
  · subst q
    rw [Nat.testBit_two_pow_add_eq, Nat.testBit_two_pow_self, Nat.testBit_lt_two_pow h]; rfl
  · have h1 : x < 2 ^ i := Nat.lt_trans h (Nat.pow_lt_pow_right (by omega) q)
    have h2 : 2 ^ 63 + x < 2 ^ i := by
      have : 2 ^ (63 + 1) ≤ 2 ^ i := Nat.pow_le_pow_right (by omega) q
      rw [Nat.pow_succ] at this
      omega
    rw [Nat.testBit_lt_two_pow h1, Nat.testBit_lt_two_pow h2, Nat.testBit_two_pow_of_ne (by omega)]; rfl
theorem xor_lo (x : Nat) (h : x < 9223372036854775808) : (x + 9223372036854775808) ^^^ 9223372036854775808 = x := by
  rw [← xor_hi x h, Nat.xor_assoc, Nat.xor_self, Nat.xor_zero]
theorem flip_eq (i : Int) (h0 : -9223372036854775808 ≤ i) (h1 : i ≤ 9223372036854775807) : Go.bits .xor .u64 (IntKind.u64.wrap i) 9223372036854775808 = (((i + 9223372036854775808).toNat : Nat) : Int) := by
  rw [IntKind.wrap_u64, show (9223372036854775808 : Int) = ((9223372036854775808 : Nat) : Int) from rfl]
  by_cases h : 0 ≤ i
  · obtain ⟨n, rfl⟩ := Int.eq_ofNat_of_zero_le h
    rw [show ((n : Nat) : Int) % 18446744073709551616 = ((n : Nat) : Int) by omega, u64_xor_nat _ _ (by omega) (by omega), xor_hi n (by omega)]
    omega
  · obtain ⟨n, hn⟩ : ∃ n : Nat, i = (n : Int) - 9223372036854775808 := ⟨(i + 9223372036854775808).toNat, by omega⟩
    rw [show i % 18446744073709551616 = ((n + 9223372036854775808 : Nat) : Int) by omega, u64_xor_nat _ _ (by omega) (by omega), xor_lo n (by omega)]
    omega
theorem unflip_eq (v : Nat) (h : v < 18446744073709551616) : wrap64 (Go.bits .xor .u64 (v : Int) 9223372036854775808) = (v : Int) - 9223372036854775808 := by
  rw [show (9223372036854775808 : Int) = ((9223372036854775808 : Nat) : Int) from rfl, u64_xor_nat _ _ h (by omega)]
  by_cases q : v < 9223372036854775808
  · rw [xor_hi v q]; unfold wrap64; omega
  · obtain ⟨n, rfl⟩ : ∃ n : Nat, v = n + 9223372036854775808 := ⟨v - 9223372036854775808, by omega⟩
    rw [xor_lo n (by omega), w64 (by omega) (by omega)]; omega
theorem escL_le (l : List UInt8) : (escL l).length ≤ 2 * l.length := by rw [escL_len]; have := List.count_le_length (a := (0 : UInt8)) (l := l); omega
theorem rep_eq (s : ByteArray) (h : s.size ≤ 1000) : strings_ReplaceAll.f s (⟨#[0]⟩ : ByteArray) (⟨#[0, 255]⟩ : ByteArray) = some (B (escL (L s))) := by
  unfold strings_ReplaceAll.f
  rw [if_pos (by rw [L_toList]), if_pos (by rw [L_toList]), if_pos (by omega)]
  rfl
theorem app_eq (a b : List UInt8) (x y : ByteArray) (hx : x = B a) (hy : y = B b) (h : a.length + b.length ≤ 9223372036854775807) : col_Put.app x y = some (B (a ++ b)) := by
  subst hx hy
  unfold col_Put.app
  rw [if_pos (by rw [B_size, B_size]; exact h)]
  exact congrArg some (L_inj (by rw [L_append, B_L, B_L, B_L]))
theorem one_eq (n : Nat) (h : n < 256) : strOfNums [(n : Int)] = B [UInt8.ofNat n] := by rw [← str_one, show (n : Int) % 256 = (n : Int) by omega]
def putV (a0 a1 a2 : Int) (s : ByteArray) : ByteArray × Int := if Right ⟨a0, a1, a2, L s⟩ then (B (cput ⟨a0, a1, a2, L s⟩), 0) else (⟨#[]⟩, 3)
theorem cput_ev (a0 a1 a2 : Int) (s : ByteArray) (b : Bd ⟨a0, a1, a2, L s⟩) (hs : s.size ≤ 1000) : Ev (fun k => col_Put.f k a0 a1 a2 s) (putV a0 a1 a2 s) := by
  have b1 : -9223372036854775808 ≤ a1 := b.i0
  have b2 : a1 ≤ 9223372036854775807 := b.i1
  have b3 : 0 ≤ a2 := b.u0
  have b4 : a2 ≤ 18446744073709551615 := b.u1
  unfold col_Put.f putV
  refine ev_bind (right_ev a0 a1 a2 s b3) ?_
  by_cases hr : Right ⟨a0, a1, a2, L s⟩
  rotate_left
  · exact ev_neg (by rw [decide_eq_false hr]; decide) (ev_some' (by rw [if_neg hr]))
  refine ev_pos (decide_eq_true hr) ?_
  rw [if_pos hr]
  obtain ⟨n, rfl⟩ := Int.eq_ofNat_of_zero_le b3
  rcases hr with ⟨h1, h2, h3, h4⟩ | ⟨h1, h2, h3, h4⟩ | ⟨h1, h2, h3⟩ | ⟨h1, h2, h3⟩ | ⟨h1, h2, h3⟩ <;> simp only at h1 h2 h3
  · subst h1
    exact ev_pos rfl (ev_some' (by rw [show strOfNums [16] = B [16] from one_eq 16 (by omega)]; rfl))
  · subst h1
    refine ev_neg (by omega) (ev_pos rfl (ev_some' ?_))
    have : n = 0 ∨ n = 1 := by omega
    rcases this with rfl | rfl
    · rw [w64 (x := ((0 : Nat) : Int)) (by omega) (by omega), w64 (by omega) (by omega)]
      exact congrArg (fun x => (x, (0 : Int))) (one_eq 32 (by omega))
    · rw [w64 (x := ((1 : Nat) : Int)) (by omega) (by omega), w64 (by omega) (by omega)]
      exact congrArg (fun x => (x, (0 : Int))) (one_eq 33 (by omega))
  · subst h1
    refine ev_neg (by omega) (ev_neg (by omega) (ev_pos rfl ?_))
    rw [flip_eq a1 b1 b2]
    refine ev_bind_now (wide_eq _) (ev_bind_now (app_eq [48] (be 8 (a1 + 9223372036854775808).toNat) _ _ (one_eq 48 (by omega)) rfl (by rw [be_length]; simp)) (ev_some' rfl))
  · subst h1
    refine ev_neg (by omega) (ev_neg (by omega) (ev_neg (by omega) (ev_pos rfl ?_)))
    have hl := wput_length n
    have := wcount_le n
    refine ev_bind (put_ev n (by omega)) (ev_bind_now (app_eq [64] (wput n) _ _ (one_eq 64 (by omega)) rfl (by simp; omega)) (ev_some' ?_))
    rfl
  · subst h1
    refine ev_neg (by omega) (ev_neg (by omega) (ev_neg (by omega) (ev_neg (by omega) (ev_pos rfl ?_))))
    have := escL_le (L s)
    rw [L_length] at this
    refine ev_bind_now (rep_eq s hs) (ev_bind_now (app_eq [80] (escL (L s)) _ _ (one_eq 80 (by omega)) rfl (by simp; omega)) (ev_bind_now (app_eq ([80] ++ escL (L s)) [0, 1] _ _ rfl rfl (by simp; omega)) (ev_some' ?_)))
    rfl
end Go.Proofs.YthaicofleloplaaDoor.Spec
namespace Go.Proofs.YthaicofleloplaaDoor.Spec
open Go.RowKit Go.Proofs.YthaicofleloplaaDoorW.PrintWords Go.Proofs.YthaicofleloplaaDoorW.PrintLast Go.Proofs.YthaicofleloplaaDoorW.PrintMore Go.Proofs.YthaicofleloplaaDoorEv Go.Proofs.YthaicofleloplaaDoorCol Go.Proofs.YthaicofleloplaaDoorR Go.Proofs.YthaicofleloplaaDoor.P

theorem or_eq (v : Nat) (b : UInt8) (h : v < 72057594037927936) : Go.bits .or .u64 (IntKind.u64.wrap ((v : Int) * 256)) (IntKind.u64.wrap (b.toNat : Int)) = ((v * 256 + b.toNat : Nat) : Int) := by
  have hb := u8_lt b
  rw [u64_in (by omega) (by omega), u64_in (by omega) (by omega), show (v : Int) * 256 = ((v * 256 : Nat) : Int) by omega, u64_or_nat _ _ (by omega) (by omega)]
  have := Nat.two_pow_add_eq_or_of_lt (i := 8) (b := b.toNat) hb v
  rw [show v * 256 = 2 ^ 8 * v by omega, this]
theorem add_eq (v : Nat) (b : UInt8) (h : v < 72057594037927936) : IntKind.u64.wrap ((IntKind.u64.wrap ((v : Int) * 256)) + (IntKind.u64.wrap (b.toNat : Int))) = ((v * 256 + b.toNat : Nat) : Int) := by
  have hb := u8_lt b
  rw [u64_in (x := (v : Int) * 256) (by omega) (by omega), u64_in (x := (b.toNat : Int)) (by omega) (by omega), u64_in (by omega) (by omega)]
  omega
theorem val_take {l : List UInt8} {i : Nat} {b : UInt8} (h : l[i]? = some b) : val (l.take (i + 1)) = val (l.take i) * 256 + b.toNat := by
  rw [List.take_add_one, h]
  exact val_snoc _ _
theorem val_take_lt (l : List UInt8) {i : Nat} (h : i ≤ 7) : val (l.take i) < 72057594037927936 := by
  have h1 := val_lt _ (l.take i) rfl
  have h2 : (l.take i).length ≤ 7 := by rw [List.length_take]; omega
  have h3 : 256 ^ (l.take i).length ≤ 256 ^ 7 := Nat.pow_le_pow_right (by omega) h2
  have e : (256 : Nat) ^ 7 = 72057594037927936 := by decide
  omega
theorem val_take_le (l : List UInt8) {i : Nat} (h : i ≤ 8) : val (l.take i) < 18446744073709551616 := by
  have h1 := val_lt _ (l.take i) rfl
  have h2 : (l.take i).length ≤ 8 := by rw [List.length_take]; omega
  have h3 : 256 ^ (l.take i).length ≤ 256 ^ 8 := Nat.pow_le_pow_right (by omega) h2
  have e : (256 : Nat) ^ 8 = 18446744073709551616 := by decide
  omega
theorem drop_some (s : ByteArray) {p : Nat} (h : p < s.size) : ∃ c, (L s)[p]? = some c ∧ (L s).drop p = c :: (L s).drop (p + 1) ∧ bt s (p : Int) = (c.toNat : Int) := by
  have hl : p < (L s).length := by rw [L_length]; exact h
  exact ⟨(L s)[p], List.getElem?_eq_getElem hl, (List.drop_eq_getElem_cons hl), bt_L s p hl⟩
theorem drop_at (s : ByteArray) {p i : Nat} (h : p + i < s.size) : ∃ b, ((L s).drop p)[i]? = some b ∧ bt s ((p + i : Nat) : Int) = (b.toNat : Int) := by
  have hl : p + i < (L s).length := by rw [L_length]; exact h
  exact ⟨(L s)[p + i], by rw [List.getElem?_drop, List.getElem?_eq_getElem hl], bt_L s (p + i) hl⟩
theorem drop_len (s : ByteArray) (p : Nat) : ((L s).drop p).length = s.size - p := by rw [List.length_drop, L_length]
theorem drop_end (s : ByteArray) {p : Nat} (h : s.size ≤ p) : (L s).drop p = [] := List.drop_eq_nil_of_le (by rw [L_length]; exact h)
/-! ### numbers -/
theorem more_eq (c : Nat) (h : c < 256) : word_more.f (c : Int) = some (wmore c : Int) := by
  unfold word_more.f wmore
  by_cases h1 : c > 249
  · rw [if_pos (by omega), if_pos h1, w64 (x := (c : Int)) (by omega) (by omega), w64 (by omega) (by omega)]
    exact congrArg some (by omega)
  · rw [if_neg (by omega), if_neg h1]
    by_cases h2 : c = 249
    · rw [if_pos (by omega), if_pos h2]; rfl
    · rw [if_neg (by omega), if_neg h2]
      by_cases h3 : c ≥ 241
      · rw [if_pos (by omega), if_pos h3]; rfl
      · rw [if_neg (by omega), if_neg h3]; rfl
def wres (s : ByteArray) (p : Nat) : Int × Int × Int := if (wparse ((L s).drop p)).2.2 = 0 then (((wparse ((L s).drop p)).1 : Int), ((p + (wparse ((L s).drop p)).2.1 : Nat) : Int), 0) else (0, 0, (wparse ((L s).drop p)).2.2)
theorem wget_close (s : ByteArray) (p cnt n : Nat) (hn : n < 18446744073709551616) (hp : p + 1 + cnt ≤ s.size) (hs : s.size ≤ 10000) (l : List UInt8) (hl : ((L s).drop p).take (1 + cnt) = l) :
    Ev (fun k => (word_Put.f k (n : Int)).bind fun t => (if (p : Int) ≤ (wrap64 ((wrap64 ((p : Int) + 1)) + (cnt : Int))) then (if (wrap64 ((wrap64 ((p : Int) + 1)) + (cnt : Int))) ≤ (s.size : Int) then (if t.toList = (s.extract ((p : Int) : Int).toNat ((wrap64 ((wrap64 ((p : Int) + 1)) + (cnt : Int))) : Int).toNat).toList then (some ((n : Int), wrap64 ((wrap64 ((p : Int) + 1)) + (cnt : Int)), (0 : Int))) else (some (0, 0, 3))) else (none)) else (none)))
      (if wput n = l then ((n : Int), ((p + (1 + cnt) : Nat) : Int), 0) else (0, 0, 3)) := by
  have e : wrap64 ((wrap64 ((p : Int) + 1)) + (cnt : Int)) = ((p + (1 + cnt) : Nat) : Int) := by
    rw [w64 (x := (p : Int) + 1) (by omega) (by omega), w64 (by omega) (by omega)]; omega
  rw [e]
  refine ev_bind (put_ev n hn) (ev_pos (by omega) (ev_pos (by omega) ?_))
  rw [L_toList, B_L, Int.toNat_natCast, Int.toNat_natCast, L_toList, L_extract, show p + (1 + cnt) - p = 1 + cnt by omega, hl]
  by_cases q : wput n = l
  · rw [if_pos q, if_pos q]; exact ev_some
  · rw [if_neg q, if_neg q]; exact ev_some
theorem wget_loop (s : ByteArray) (p cnt : Nat) (hc : cnt ≤ 8) (hp : p + 1 + cnt ≤ s.size) (hs : s.size ≤ 10000) (R : Int × Int × Int)
    (hfin : Ev (fun k => word_Get.l0 k s (p : Int) (cnt : Int) ((val (((L s).drop (p + 1)).take cnt) : Nat) : Int) (cnt : Int) (cnt : Int)) R) :
    ∀ (d i : Nat), i ≤ cnt → cnt - i = d → Ev (fun k => word_Get.l0 k s (p : Int) (cnt : Int) ((val (((L s).drop (p + 1)).take i) : Nat) : Int) (cnt : Int) (i : Int)) R := by
  intro d
  induction d with
  | zero =>
    intro i hi hd
    obtain rfl : i = cnt := by omega
    exact hfin
  | succ d ih =>
    intro i hi hd
    refine ev_step ?_
    simp only [word_Get.l0]
    obtain ⟨b, hb, hbt⟩ := drop_at s (p := p + 1) (i := i) (by omega)
    have e : wrap64 (wrap64 ((p : Int) + 1) + (i : Int)) = ((p + 1 + i : Nat) : Int) := by
      rw [w64 (x := (p : Int) + 1) (by omega) (by omega), w64 (by omega) (by omega)]; omega
    rw [e, hbt, or_eq _ b (val_take_lt _ (by omega)), ← val_take hb, w64_succ (by omega)]
    exact ev_pos (by omega) (ev_pos (by omega) (ev_pos (by omega) (ih (i + 1) (by omega) (by omega))))
theorem wget_ev (s : ByteArray) (p : Nat) (hp : p ≤ s.size) (hs : s.size ≤ 10000) : Ev (fun k => word_Get.f k s (p : Int)) (wres s p) := by
  unfold word_Get.f
  refine ev_neg (by omega) (ev_step ?_)
  simp only [word_Get.j0]
  refine ev_neg (by simp; omega) ?_
  by_cases hz : p = s.size
  · have e : wres s p = (0, 0, 7) := by unfold wres; rw [drop_end s (by omega)]; rfl
    rw [e]
    refine ev_pos (by omega) (ev_step ?_)
    simp only [word_Get.j1]
    exact ev_pos trivial ev_some
  obtain ⟨c, hc, hd, hbt⟩ := drop_some s (p := p) (by omega)
  have hc8 := u8_lt c
  have hm := wmore_le c.toNat hc8
  refine ev_neg (by omega) (ev_pos (by omega) (ev_pos (by omega) ?_))
  rw [hbt, w64 (x := (s.size : Int) - (p : Int)) (by omega) (by omega), w64 (by omega) (by omega)]
  refine ev_bind_now (more_eq _ hc8) (ev_step ?_)
  simp only [word_Get.j1]
  have hlen := drop_len s (p + 1)
  have hw : wparse ((L s).drop p) = if ((L s).drop (p + 1)).length < wmore c.toNat then (0, 0, 7) else if wput (wval c.toNat (val (((L s).drop (p + 1)).take (wmore c.toNat)))) = c :: ((L s).drop (p + 1)).take (wmore c.toNat) then (wval c.toNat (val (((L s).drop (p + 1)).take (wmore c.toNat))), 1 + wmore c.toNat, 0) else (0, 0, 3) := by rw [hd]; rfl
  by_cases hsh : s.size - p - 1 < wmore c.toNat
  · rw [if_pos (by omega)] at hw
    have e : wres s p = (0, 0, 7) := by unfold wres; rw [hw]; rfl
    rw [e]
    exact ev_pos (by simp; omega) ev_some
  refine ev_neg (by simp; omega) (ev_pos (by omega) (ev_pos (by omega) ?_))
  rw [if_neg (by omega)] at hw
  rw [hbt]
  refine ev_bind_now (more_eq _ hc8) ?_
  have hfin := wget_loop s p (wmore c.toNat) hm (by omega) hs (wres s p) ?_ _ 0 (Nat.zero_le _) rfl
  · exact hfin
  refine ev_step ?_
  simp only [word_Get.l0]
  refine ev_neg (by omega) (ev_pos (by omega) (ev_pos (by omega) ?_))
  have hv := val_take_le ((L s).drop (p + 1)) hm
  have hvl := wval_lt c.toNat (val (((L s).drop (p + 1)).take (wmore c.toNat))) hc8 (val_lt _ _ (by rw [List.length_take]; omega))
  have hl : ((L s).drop p).take (1 + wmore c.toNat) = c :: ((L s).drop (p + 1)).take (wmore c.toNat) := by rw [hd, Nat.add_comm, List.take_succ_cons]
  have hcl := wget_close s p (wmore c.toNat) _ hvl (by omega) hs _ hl
  have hres : wres s p = if wput (wval c.toNat (val (((L s).drop (p + 1)).take (wmore c.toNat)))) = c :: ((L s).drop (p + 1)).take (wmore c.toNat) then (((wval c.toNat (val (((L s).drop (p + 1)).take (wmore c.toNat))) : Nat) : Int), ((p + (1 + wmore c.toNat) : Nat) : Int), 0) else (0, 0, 3) := by
    unfold wres
    rw [hw]
    by_cases q : wput (wval c.toNat (val (((L s).drop (p + 1)).take (wmore c.toNat)))) = c :: ((L s).drop (p + 1)).take (wmore c.toNat)
    · rw [if_pos q, if_pos q]; rfl
    · rw [if_neg q, if_neg q]; rfl
  rw [hres]
  have h249 : wmore c.toNat = 1 → 241 ≤ c.toNat ∧ c.toNat ≤ 248 := by
    unfold wmore
    intro h
    by_cases q1 : c.toNat > 249
    · rw [if_pos q1] at h; omega
    · rw [if_neg q1] at h
      by_cases q2 : c.toNat = 249
      · rw [if_pos q2] at h; omega
      · rw [if_neg q2] at h
        by_cases q3 : c.toNat ≥ 241
        · omega
        · rw [if_neg q3] at h; omega
  by_cases k0 : wmore c.toNat = 0
  · refine ev_pos (by omega) ?_
    rw [hbt, u64_in (by omega) (by omega), show (c.toNat : Int) = ((wval c.toNat (val (((L s).drop (p + 1)).take (wmore c.toNat))) : Nat) : Int) by unfold wval; rw [if_pos k0]]
    exact hcl
  refine ev_neg (by omega) ?_
  by_cases k1 : wmore c.toNat = 1
  · refine ev_pos (by omega) ?_
    have h2 := h249 k1
    have hv1 : val (((L s).drop (p + 1)).take (wmore c.toNat)) < 256 := by
      have := val_lt 1 (((L s).drop (p + 1)).take (wmore c.toNat)) (by rw [List.length_take]; omega)
      simpa using this
    have ev : wval c.toNat (val (((L s).drop (p + 1)).take (wmore c.toNat))) = 240 + (c.toNat - 241) * 256 + val (((L s).drop (p + 1)).take (wmore c.toNat)) := by unfold wval; rw [if_neg k0, if_pos k1]
    rw [hbt, u64_in (by omega) (by omega), show ((val (((L s).drop (p + 1)).take (wmore c.toNat)) : Nat) : Int) + (240 + ((c.toNat : Int) - 241) % 256 * 256) = ((wval c.toNat (val (((L s).drop (p + 1)).take (wmore c.toNat))) : Nat) : Int) by rw [ev]; omega]
    exact hcl
  refine ev_neg (by omega) ?_
  by_cases k2 : wmore c.toNat = 2
  · refine ev_pos (by omega) ?_
    have hv1 : val (((L s).drop (p + 1)).take (wmore c.toNat)) < 65536 := by
      have := val_lt 2 (((L s).drop (p + 1)).take (wmore c.toNat)) (by rw [List.length_take]; omega)
      simpa using this
    have ev : wval c.toNat (val (((L s).drop (p + 1)).take (wmore c.toNat))) = 2288 + val (((L s).drop (p + 1)).take (wmore c.toNat)) := by unfold wval; rw [if_neg k0, if_neg k1, if_pos k2]
    rw [u64_in (by omega) (by omega), show ((val (((L s).drop (p + 1)).take (wmore c.toNat)) : Nat) : Int) + 2288 = ((wval c.toNat (val (((L s).drop (p + 1)).take (wmore c.toNat))) : Nat) : Int) by rw [ev]; omega]
    exact hcl
  · refine ev_neg (by omega) ?_
    have ev : wval c.toNat (val (((L s).drop (p + 1)).take (wmore c.toNat))) = val (((L s).drop (p + 1)).take (wmore c.toNat)) := by unfold wval; rw [if_neg k0, if_neg k1, if_neg k2]
    rw [ev] at hcl ⊢
    exact hcl
/-! ### numbers of eight bytes -/
def ires (s : ByteArray) (p : Nat) : Int × Int × Int := if s.size - p < 8 then (0, 0, 7) else ((val (((L s).drop p).take 8) : Int) - 9223372036854775808, ((p + 8 : Nat) : Int), 0)
theorem integer_ev (s : ByteArray) (p : Nat) (hp : p ≤ s.size) (hs : s.size ≤ 10000) : Ev (fun k => col_integer.f k s (p : Int)) (ires s p) := by
  unfold col_integer.f ires
  rw [w64 (x := (s.size : Int) - (p : Int)) (by omega) (by omega)]
  by_cases h : s.size - p < 8
  · rw [if_pos h]; exact ev_pos (by omega) ev_some
  rw [if_neg h]
  refine ev_neg (by omega) ?_
  have loop : ∀ (d i : Nat), i ≤ 8 → 8 - i = d → Ev (fun k => col_integer.l0 k s (p : Int) ((val (((L s).drop p).take i) : Nat) : Int) (i : Int)) ((val (((L s).drop p).take 8) : Int) - 9223372036854775808, ((p + 8 : Nat) : Int), 0) := by
    intro d
    induction d with
    | zero =>
      intro i hi hd
      obtain rfl : i = 8 := by omega
      refine ev_step ?_
      simp only [col_integer.l0]
      refine ev_neg (by omega) (ev_some' ?_)
      rw [unflip_eq _ (val_take_le _ (Nat.le_refl 8)), w64 (by omega) (by omega)]
      rfl
    | succ d ih =>
      intro i hi hd
      refine ev_step ?_
      simp only [col_integer.l0]
      obtain ⟨b, hb, hbt⟩ := drop_at s (p := p) (i := i) (by omega)
      have e : wrap64 ((p : Int) + (i : Int)) = ((p + i : Nat) : Int) := by rw [w64 (by omega) (by omega)]; omega
      rw [e, hbt, or_eq _ b (val_take_lt _ (by omega)), ← val_take hb, w64_succ (by omega)]
      exact ev_pos (by omega) (ev_pos (by omega) (ev_pos (by omega) (ih (i + 1) (by omega) (by omega))))
  exact loop _ 0 (by omega) rfl
/-! ### texts -/
def tres (acc : List UInt8) (p : Nat) (q : List UInt8 × Nat × Int) : ByteArray × Int × Int := if q.2.2 = 0 then (B (acc ++ q.1), ((p + q.2.1 : Nat) : Int), 0) else (⟨#[]⟩, 0, q.2.2)
theorem tres_cons (acc : List UInt8) (p k : Nat) (c : UInt8) (q : List UInt8 × Nat × Int) : tres acc p (tcons c k q) = tres (acc ++ [c]) (p + k) q := by
  unfold tres tcons
  by_cases h : q.2.2 = 0
  · rw [if_pos h, if_pos rfl, if_pos h]
    simp only [List.append_assoc, List.singleton_append]
    rw [show p + (q.2.1 + k) = p + k + q.2.1 by omega]
  · rw [if_neg h, if_neg h, if_neg h]
theorem text_loop (s : ByteArray) (hs : s.size ≤ 10000) : ∀ (n p : Nat) (acc : List UInt8), s.size - p ≤ n → p ≤ s.size → acc.length ≤ p → Ev (fun k => col_text.l0 k s (ns acc) (p : Int)) (tres acc p (tparse ((L s).drop p))) := by
  intro n
  induction n using Nat.strongRecOn with
  | _ n ih =>
    intro p acc hn hp ha
    refine ev_step ?_
    simp only [col_text.l0]
    by_cases hz : p = s.size
    · rw [drop_end s (by omega)]
      exact ev_neg (by omega) ev_some
    obtain ⟨c, hc, hd, hbt⟩ := drop_some s (p := p) (by omega)
    refine ev_pos (by omega) (ev_pos (by omega) ?_)
    rw [hbt, hd, w64_succ (by omega), ns_length]
    have hc8 := u8_lt c
    by_cases h0 : c = 0
    · subst h0
      refine ev_pos rfl ?_
      by_cases hz2 : p + 1 = s.size
      · rw [drop_end s (by omega)]
        exact ev_pos (by omega) ev_some
      obtain ⟨d, hd', hdd, hdbt⟩ := drop_some s (p := p + 1) (by omega)
      refine ev_neg (by omega) (ev_pos (by omega) (ev_pos (by omega) ?_))
      rw [hdbt, hdd, w64_succ (by omega)]
      have hd8 := u8_lt d
      by_cases h1 : d = 1
      · subst h1
        refine ev_pos rfl (ev_some' ?_)
        rw [str_ns, tparse_end]
        unfold tres
        rw [if_pos rfl, List.append_nil]
        rfl
      have h1' : d.toNat ≠ 1 := fun e => h1 (by rw [← UInt8.toNat_inj]; exact e)
      refine ev_neg (by omega) ?_
      by_cases h2 : d = 255
      · subst h2
        refine ev_pos rfl (ev_pos (by omega) ?_)
        rw [tparse_esc, tres_cons]
        have := ih (n - 2) (by omega) (p + 1 + 1) (acc ++ [0]) (by omega) (by omega) (by rw [List.length_append]; simp; omega)
        rw [ns_append] at this
        exact this
      · have h2' : d.toNat ≠ 255 := fun e => h2 (by rw [← UInt8.toNat_inj]; exact e)
        refine ev_neg (by omega) (ev_some' ?_)
        have e : tparse (0 :: d :: (L s).drop (p + 1 + 1)) = ([], 0, 3) := by
          show (if (0 : UInt8) = 0 then (if d = 1 then _ else if d = 255 then _ else _) else _) = _
          rw [if_pos rfl, if_neg h1, if_neg h2]
        rw [e]
        rfl
    · have h0' : c.toNat ≠ 0 := fun e => h0 (by rw [← UInt8.toNat_inj]; exact e)
      refine ev_neg (by omega) (ev_pos (by omega) ?_)
      rw [tparse_ne h0, tres_cons]
      have := ih (n - 1) (by omega) (p + 1) (acc ++ [c]) (by omega) (by omega) (by rw [List.length_append]; simp; omega)
      rw [ns_append] at this
      exact this
theorem text_ev (s : ByteArray) (p : Nat) (hp : p ≤ s.size) (hs : s.size ≤ 10000) : Ev (fun k => col_text.f k s (p : Int)) (tres [] p (tparse ((L s).drop p))) := by
  unfold col_text.f
  exact text_loop s hs _ p [] (Nat.le_refl _) hp (Nat.zero_le _)
/-! ### columns -/
def gres (p : Nat) (q : Cl × Nat × Int) : Int × Int × Int × ByteArray × Int × Int := if q.2.2 = 0 then (q.1.kd, q.1.i, q.1.u, B q.1.s, ((p + q.2.1 : Nat) : Int), 0) else (0, 0, 0, ⟨#[]⟩, 0, q.2.2)
def getV (s : ByteArray) (a : Int) : Int × Int × Int × ByteArray × Int × Int := if a < 0 ∨ a > (s.size : Int) then (0, 0, 0, ⟨#[]⟩, 0, 4) else gres a.toNat (cparse ((L s).drop a.toNat))
theorem kd_of (n m : Nat) (h : n < 256) (e : n / 16 = m + 1) : wrap64 ((wrap64 (Int.tdiv (n : Int) 16)) - 1) = (m : Int) := by
  have h1 : Int.tdiv (n : Int) 16 = ((m + 1 : Nat) : Int) := by rw [← e]; exact (Int.ofNat_tdiv n 16).symm
  rw [h1, w64 (x := ((m + 1 : Nat) : Int)) (by omega) (by omega), w64 (by omega) (by omega)]; omega
theorem cparse_no {c : UInt8} (r : List UInt8) (h1 : c.toNat ≠ 16) (h2 : c.toNat ≠ 32) (h3 : c.toNat ≠ 33) (h4 : c.toNat ≠ 48) (h5 : c.toNat ≠ 64) (h6 : c.toNat ≠ 80) : cparse (c :: r) = (zero, 0, 3) := by
  simp only [cparse]
  rw [if_neg (by rintro rfl; exact h1 rfl), if_neg (by rintro rfl; exact h2 rfl), if_neg (by rintro rfl; exact h3 rfl), if_neg (by rintro rfl; exact h4 rfl), if_neg (by rintro rfl; exact h5 rfl), if_neg (by rintro rfl; exact h6 rfl)]
theorem get_ev (s : ByteArray) (a : Int) (hs : s.size ≤ 10000) : Ev (fun k => col_Get.f k s a) (getV s a) := by
  unfold col_Get.f getV
  by_cases hn : a < 0
  · rw [if_pos (.inl hn)]
    refine ev_pos hn (ev_step ?_)
    simp only [col_Get.j0]
    exact ev_pos trivial ev_some
  refine ev_neg hn (ev_step ?_)
  simp only [col_Get.j0]
  obtain ⟨p, rfl⟩ := Int.eq_ofNat_of_zero_le (by omega : 0 ≤ a)
  by_cases hg : p > s.size
  · rw [if_pos (.inr (by omega))]
    exact ev_pos (decide_eq_true (by omega)) ev_some
  rw [if_neg (by omega), Int.toNat_natCast]
  refine ev_neg (by rw [decide_eq_false (by omega)]; decide) ?_
  by_cases hz : p = s.size
  · rw [drop_end s (by omega)]
    exact ev_pos (by omega) ev_some
  obtain ⟨c, hc, hd, hbt⟩ := drop_some s (p := p) (by omega)
  have hc8 := u8_lt c
  refine ev_neg (by omega) (ev_pos (by omega) (ev_pos (by omega) ?_))
  rw [hbt, w64 (x := (c.toNat : Int)) (by omega) (by omega), w64_succ (by omega), hd]
  by_cases c16 : c.toNat = 16
  · obtain rfl : c = 16 := by rw [← UInt8.toNat_inj]; exact c16
    refine ev_pos (by omega) (ev_some' ?_)
    rw [kd_of _ 0 hc8 (by omega)]
    rfl
  refine ev_neg (by omega) ?_
  by_cases c32 : c.toNat = 32
  · obtain rfl : c = 32 := by rw [← UInt8.toNat_inj]; exact c32
    refine ev_pos (by omega) (ev_step ?_)
    simp only [col_Get.j1]
    refine ev_pos (by simp) (ev_pos trivial (ev_some' ?_))
    rw [kd_of _ 1 hc8 (by omega)]
    rfl
  refine ev_neg (by omega) (ev_step ?_)
  simp only [col_Get.j1]
  by_cases c33 : c.toNat = 33
  · obtain rfl : c = 33 := by rw [← UInt8.toNat_inj]; exact c33
    refine ev_pos (by simp) (ev_pos trivial (ev_some' ?_))
    rw [kd_of _ 1 hc8 (by omega)]
    rfl
  refine ev_neg (by simp; omega) ?_
  by_cases c48 : c.toNat = 48
  · obtain rfl : c = 48 := by rw [← UInt8.toNat_inj]; exact c48
    have hlen := drop_len s (p + 1)
    have hi := integer_ev s (p + 1) (by omega) hs
    by_cases q : s.size - (p + 1) < 8
    · have e1 : ires s (p + 1) = (0, 0, 7) := by unfold ires; rw [if_pos q]
      have e2 : cparse (48 :: (L s).drop (p + 1)) = (zero, 0, 7) := by rw [cparse_48, if_pos (by omega)]
      rw [e1] at hi
      rw [e2]
      exact ev_pos (by omega) (ev_bind hi (ev_neg (by decide) ev_some))
    · have e1 : ires s (p + 1) = ((val (((L s).drop (p + 1)).take 8) : Int) - 9223372036854775808, ((p + 1 + 8 : Nat) : Int), 0) := by unfold ires; rw [if_neg q]
      have e2 : cparse (48 :: (L s).drop (p + 1)) = (⟨2, (val (((L s).drop (p + 1)).take 8) : Int) - 9223372036854775808, 0, []⟩, 9, 0) := by rw [cparse_48, if_neg (by omega)]
      rw [e1] at hi
      rw [e2]
      refine ev_pos (by omega) (ev_bind hi (ev_pos rfl (ev_some' ?_)))
      rw [kd_of _ 2 hc8 (by omega)]
      unfold gres
      rw [if_pos rfl, show p + 9 = p + 1 + 8 by omega]
      rfl
  refine ev_neg (by omega) ?_
  by_cases c64 : c.toNat = 64
  · obtain rfl : c = 64 := by rw [← UInt8.toNat_inj]; exact c64
    have hi := wget_ev s (p + 1) (by omega) hs
    by_cases q : (wparse ((L s).drop (p + 1))).2.2 = 0
    · have e1 : wres s (p + 1) = (((wparse ((L s).drop (p + 1))).1 : Int), ((p + 1 + (wparse ((L s).drop (p + 1))).2.1 : Nat) : Int), 0) := by unfold wres; rw [if_pos q]
      have e2 : cparse (64 :: (L s).drop (p + 1)) = (⟨3, 0, ((wparse ((L s).drop (p + 1))).1 : Int), []⟩, (wparse ((L s).drop (p + 1))).2.1 + 1, 0) := by rw [cparse_64, if_pos q]
      rw [e1] at hi
      rw [e2]
      refine ev_pos (by omega) (ev_bind hi (ev_pos rfl (ev_some' ?_)))
      rw [kd_of _ 3 hc8 (by omega)]
      unfold gres
      rw [if_pos rfl]
      simp only
      rw [show p + ((wparse ((L s).drop (p + 1))).2.1 + 1) = p + 1 + (wparse ((L s).drop (p + 1))).2.1 by omega]
      rfl
    · have e1 : wres s (p + 1) = (0, 0, (wparse ((L s).drop (p + 1))).2.2) := by unfold wres; rw [if_neg q]
      have e2 : cparse (64 :: (L s).drop (p + 1)) = (zero, 0, (wparse ((L s).drop (p + 1))).2.2) := by rw [cparse_64, if_neg q]
      rw [e1] at hi
      rw [e2]
      refine ev_pos (by omega) (ev_bind hi (ev_neg q (ev_some' ?_)))
      unfold gres
      rw [if_neg q]
  refine ev_neg (by omega) ?_
  by_cases c80 : c.toNat = 80
  · obtain rfl : c = 80 := by rw [← UInt8.toNat_inj]; exact c80
    have hi := text_ev s (p + 1) (by omega) hs
    by_cases q : (tparse ((L s).drop (p + 1))).2.2 = 0
    · have e1 : tres [] (p + 1) (tparse ((L s).drop (p + 1))) = (B (tparse ((L s).drop (p + 1))).1, ((p + 1 + (tparse ((L s).drop (p + 1))).2.1 : Nat) : Int), 0) := by unfold tres; rw [if_pos q]; rfl
      have e2 : cparse (80 :: (L s).drop (p + 1)) = (⟨4, 0, 0, (tparse ((L s).drop (p + 1))).1⟩, (tparse ((L s).drop (p + 1))).2.1 + 1, 0) := by rw [cparse_80, if_pos q]
      rw [e1] at hi
      rw [e2]
      refine ev_pos (by omega) (ev_bind hi (ev_pos rfl (ev_some' ?_)))
      rw [kd_of _ 4 hc8 (by omega)]
      unfold gres
      rw [if_pos rfl]
      simp only
      rw [show p + ((tparse ((L s).drop (p + 1))).2.1 + 1) = p + 1 + (tparse ((L s).drop (p + 1))).2.1 by omega]
      rfl
    · have e1 : tres [] (p + 1) (tparse ((L s).drop (p + 1))) = (⟨#[]⟩, 0, (tparse ((L s).drop (p + 1))).2.2) := by unfold tres; rw [if_neg q]
      have e2 : cparse (80 :: (L s).drop (p + 1)) = (zero, 0, (tparse ((L s).drop (p + 1))).2.2) := by rw [cparse_80, if_neg q]
      rw [e1] at hi
      rw [e2]
      refine ev_pos (by omega) (ev_bind hi (ev_neg q (ev_some' ?_)))
      unfold gres
      rw [if_neg q]
  · refine ev_neg (by omega) (ev_some' ?_)
    rw [cparse_no _ c16 c32 c33 c48 c64 c80]
    rfl
end Go.Proofs.YthaicofleloplaaDoor.Spec
namespace Go.Proofs.YthaicofleloplaaDoor.Spec
open Go.RowKit Go.Proofs.YthaicofleloplaaDoorW.PrintWords Go.Proofs.YthaicofleloplaaDoorW.PrintLast Go.Proofs.YthaicofleloplaaDoorW.PrintMore Go.Proofs.YthaicofleloplaaDoorEv Go.Proofs.YthaicofleloplaaDoorCol Go.Proofs.YthaicofleloplaaDoorR Go.Proofs.YthaicofleloplaaDoor.P

def c51 (x : S51) : Cl := ⟨x.f0, x.f1, x.f2, L x.f3⟩
def s51 (c : Cl) : S51 := ⟨c.kd, c.i, c.u, B c.s⟩
def s56 (c : Cl) : S56 := ⟨c.kd, c.i, c.u, B c.s⟩
theorem s51_c51 (x : S51) : s51 (c51 x) = x := by
  unfold s51 c51
  simp only [B_self]
theorem map_s51 (l : List S51) : (l.map c51).map s51 = l := by
  rw [List.map_map]
  exact (List.map_congr_left fun x _ => s51_c51 x).trans (List.map_id _)
theorem rd51 {l : List Cl} {i : Nat} {c : Cl} (h : l[i]? = some c) : rd_T51 (l.map s51) (i : Int) = s51 c := by
  unfold rd_T51
  rw [Int.toNat_natCast, List.getD_eq_getElem?_getD, List.getElem?_map, h]
  rfl
theorem rd56 {l : List Cl} {i : Nat} {c : Cl} (h : l[i]? = some c) : rd_T56 (l.map s56) (i : Int) = s56 c := by
  unfold rd_T56
  rw [Int.toNat_natCast, List.getD_eq_getElem?_getD, List.getElem?_map, h]
  rfl
theorem at_pre (pre rest : List Cl) (c : Cl) : (pre ++ c :: rest)[pre.length]? = some c := by simp
theorem len_map51 (l : List Cl) : ((l.map s51).length : Int) = (l.length : Int) := by rw [List.length_map]
theorem len_map56 (l : List Cl) : ((l.map s56).length : Int) = (l.length : Int) := by rw [List.length_map]
theorem snoc_eq (pre rest : List Cl) (c : Cl) : (pre ++ [c]) ++ rest = pre ++ c :: rest := by simp
theorem snoc_len (pre : List Cl) (c : Cl) : (pre ++ [c]).length = pre.length + 1 := by simp
theorem wsucc (n : Nat) (h : n ≤ 1000000) : wrap64 ((n : Int) + 1) = ((n + 1 : Nat) : Int) := w64_succ (by omega)
/-- Not too many columns, none too long. -/
structure Sm (cs : List Cl) : Prop where
  len : cs.length ≤ 1000
  each : ∀ c ∈ cs, Bd c ∧ c.s.length ≤ 1000
theorem Sm.mem {pre rest : List Cl} {c : Cl} (h : Sm (pre ++ c :: rest)) : Bd c ∧ c.s.length ≤ 1000 := h.each c (by simp)
theorem Sm.take {cs : List Cl} (h : Sm cs) (n : Nat) : Sm (cs.take n) := ⟨by rw [List.length_take]; have := h.len; omega, fun c hc => h.each c (List.mem_of_mem_take hc)⟩
theorem Sm.rb {cs : List Cl} (h : Sm cs) (hr : ∀ c ∈ cs, Right c) : RB cs := fun c hc => ⟨hr c hc, (h.each c hc).1⟩
theorem cput_le (c : Cl) : (cput c).length ≤ 2 * c.s.length + 20 := by
  have e : (cput c).length = (ctail c).length + 1 := rfl
  rw [e]
  have h1 := wput_length c.u.toNat
  have h2 := wcount_le c.u.toNat
  have h3 := escL_le c.s
  unfold ctail
  repeat' split
  · rw [be_length]; omega
  · omega
  · rw [List.length_append]; simp; omega
  · simp
theorem body_le : ∀ {cs : List Cl} (_ : ∀ c ∈ cs, c.s.length ≤ 1000), (body cs).length ≤ 2020 * cs.length
  | [], _ => by simp [body]
  | c :: cs, h => by
    have h1 := body_le (cs := cs) fun x hx => h x (List.mem_cons_of_mem _ hx)
    have h2 := h c (List.mem_cons_self ..)
    have h3 := cput_le c
    rw [body_cons, List.length_append, List.length_cons]
    omega
/-! ### Put -/
def kputV (cs : List Cl) : ByteArray × Int := if ∀ c ∈ cs, Right c then (B (kput cs), 0) else (⟨#[]⟩, 3)
theorem putV_c (c : Cl) : putV c.kd c.i c.u (B c.s) = if Right c then (B (cput c), 0) else (⟨#[]⟩, 3) := by unfold putV; rw [B_L]
theorem B_append (a b : List UInt8) : B a ++ B b = B (a ++ b) := L_inj (by rw [L_append, B_L, B_L, B_L])
theorem kput_loop : ∀ (rest pre : List Cl), Sm (pre ++ rest) → Ev (fun k => key_Put.l0 k (B (body pre)) ((pre ++ rest).map s51) ((pre ++ rest).length : Int) (pre.length : Int)) (if ∀ c ∈ rest, Right c then (B (body pre ++ kput rest), 0) else (⟨#[]⟩, 3))
  | [], pre, hs => by
    have hb := body_le (cs := pre) fun c hc => (hs.each c (by simp [hc])).2
    have hl := hs.len
    rw [List.append_nil] at hl
    rw [if_pos (show ∀ c ∈ ([] : List Cl), Right c from fun c hc => by cases hc)]
    refine ev_step ?_
    simp only [key_Put.l0]
    refine ev_neg (by simp) (ev_bind_now rfl ?_)
    rw [show strOfNums [1] = B [1] from str_one 1, B_size, B_size, B_append]
    exact ev_pos (by simp only [List.length_cons, List.length_nil]; omega) ev_some
  | c :: rest, pre, hs => by
    have ih := kput_loop rest (pre ++ [c]) (by rw [snoc_eq]; exact hs)
    have hb := body_le (cs := pre) fun x hx => (hs.each x (by simp [hx])).2
    have hl := hs.len
    rw [List.length_append, List.length_cons] at hl
    have hc := hs.mem
    have hcl := cput_le c
    rw [snoc_eq, snoc_len] at ih
    refine ev_step ?_
    simp only [key_Put.l0, rd51 (at_pre pre rest c), wsucc pre.length (by omega), len_map51]
    refine ev_pos (by rw [List.length_append, List.length_cons]; omega) (ev_pos (by omega) (ev_pos (by rw [List.length_append, List.length_cons]; omega) ?_))
    refine ev_bind (cput_ev c.kd c.i c.u (B c.s) (by rw [B_L]; exact hc.1) (by rw [B_size]; exact hc.2)) ?_
    rw [putV_c]
    by_cases hr : Right c
    · rw [if_pos hr]
      refine ev_pos rfl (ev_pos (by rw [B_size, B_size]; omega) ?_)
      rw [B_append, show body pre ++ cput c = body (pre ++ [c]) by rw [body_append, body_cons, body_nil, List.append_nil]]
      refine ev_eq ih ?_
      rw [kput_cons, body_append, body_cons, body_nil, List.append_nil, List.append_assoc]
      simp only [List.forall_mem_cons, hr, true_and]
    · rw [if_neg hr, if_neg (fun h => hr (h c (List.mem_cons_self ..)))]
      exact ev_neg (by decide) ev_some
theorem kput_ev (cs : List Cl) (hs : Sm cs) : Ev (fun k => key_Put.f k (cs.map s51)) (kputV cs) := by
  have := kput_loop cs [] hs
  unfold key_Put.f
  rw [len_map51]
  exact this
/-! ### Get -/
theorem gres_bad (p : Nat) {e : Int} (h : e ≠ 0) : gres p (zero, 0, e) = (0, 0, 0, ⟨#[]⟩, 0, e) := if_neg h
def readV (pre : List Cl) (q : List Int) (p : Nat) (r : List Cl × Int) : List S51 × List Int × Int := if r.2 = 0 then ((pre ++ r.1).map s51, 0 :: (q ++ places p r.1), 0) else ([], [], r.2)
theorem getV_at (s : ByteArray) (p : Nat) (hp : p ≤ s.size) : getV s (p : Int) = gres p (cparse ((L s).drop p)) := by
  unfold getV
  rw [if_neg (by omega), Int.toNat_natCast]
theorem kread_loop (s : ByteArray) (hs : s.size ≤ 10000) : ∀ (n p : Nat) (pre : List Cl) (q : List Int), s.size - p ≤ n → p ≤ s.size → pre.length ≤ p → Ev (fun k => key_read.l0 k s (p : Int) (pre.map s51) q) (readV pre q p (kp ((L s).drop p))) := by
  intro n
  induction n using Nat.strongRecOn with
  | _ n ih =>
    intro p pre q hn hp hl
    refine ev_step ?_
    simp only [key_read.l0]
    have he : wrap64 ((s.size : Int) - 1) = (s.size : Int) - 1 := w64 (by omega) (by omega)
    by_cases hz : p = s.size
    · have hg := get_ev s (p : Int) hs
      rw [getV_at s p hp, drop_end s (by omega), show cparse [] = (zero, 0, 7) from rfl, gres_bad p (by decide)] at hg
      rw [drop_end s (by omega)]
      refine ev_neg (by rw [if_pos (by omega)]; decide) (ev_bind hg (ev_neg (by decide) ev_some))
    obtain ⟨c, hc, hd, hbt⟩ := drop_some s (p := p) (by omega)
    have hc8 := u8_lt c
    by_cases h1 : c = 1
    · subst h1
      refine ev_pos (by rw [if_neg (by omega), hbt]; rfl) ?_
      rw [he]
      by_cases hz2 : p + 1 = s.size
      · rw [hd, drop_end s (by omega)]
        refine ev_pos (by omega) (ev_some' ?_)
        rw [kp_end]
        simp [readV, places]
      · refine ev_neg (by omega) (ev_some' ?_)
        obtain ⟨d, _, hd2, _⟩ := drop_some s (p := p + 1) (by omega)
        rw [hd, hd2, kp_more (by intro e; injection e with _ e; cases e) rfl]
        rfl
    · have h1' : c.toNat ≠ 1 := fun e => h1 (by rw [← UInt8.toNat_inj]; exact e)
      have hne : ((L s).drop p).head? ≠ some 1 := by rw [hd]; exact fun e => h1 (Option.some.inj e)
      have hg := get_ev s (p : Int) hs
      rw [getV_at s p hp] at hg
      refine ev_neg (by rw [if_neg (by omega), hbt, beq_eq_false_iff_ne.mpr (by omega)]; decide) (ev_bind hg ?_)
      rcases cparse_once ((L s).drop p) with ⟨x, m, ec, _, _, m0, m1, _⟩ | ec | ec
      · rw [drop_len] at m1
        rw [kp_step hne ec, ec]
        have := ih (n - m) (by omega) (p + m) (pre ++ [x]) (q ++ [((p + m : Nat) : Int)]) (by omega) (by omega) (by rw [snoc_len]; omega)
        rw [← List.drop_drop] at this
        refine ev_pos rfl (ev_pos (by rw [List.length_map]; omega) (ev_pos ⟨?_, ?_⟩ ?_))
        · show (0 : Int) ≤ ((p + m : Nat) : Int); omega
        · show ((p + m : Nat) : Int) ≤ _; omega
        · have e1 : (pre ++ [x]).map s51 = pre.map s51 ++ [s51 x] := by simp
          rw [e1] at this
          refine ev_eq this ?_
          have hm : m = (cput x).length := by
            rcases cparse_once ((L s).drop p) with ⟨x', m', ec', _, _, _, h1, h2⟩ | ec' | ec'
            · rw [ec] at ec'
              injection ec' with e1 e2
              injection e2 with e2 _
              subst e1 e2
              rw [← h2, List.length_take]
              omega
            · rw [ec] at ec'; injection ec' with _ e; injection e with _ e; exact absurd e (by decide)
            · rw [ec] at ec'; injection ec' with _ e; injection e with _ e; exact absurd e (by decide)
          unfold readV
          by_cases hk : (kp (((L s).drop p).drop m)).2 = 0
          · rw [if_pos hk, if_pos hk, if_pos rfl, snoc_eq]
            rw [show places p (x :: (kp (((L s).drop p).drop m)).1) = ((p + m : Nat) : Int) :: places (p + m) (kp (((L s).drop p).drop m)).1 by rw [hm]; rfl]
            simp
          · rw [if_neg hk, if_neg hk, if_neg hk]
      · rw [kp_bad hne (by rw [ec]; decide), ec, gres_bad p (by decide)]
        exact ev_neg (by decide) ev_some
      · rw [kp_bad hne (by rw [ec]; decide), ec, gres_bad p (by decide)]
        exact ev_neg (by decide) ev_some
def readW (l : List UInt8) : List S51 × List Int × Int := if (kp l).2 = 0 then ((kp l).1.map s51, 0 :: places 0 (kp l).1, 0) else ([], [], (kp l).2)
theorem kread_ev (s : ByteArray) (hs : s.size ≤ 10000) : Ev (fun k => key_read.f k s) (readW (L s)) := by
  have := kread_loop s hs _ 0 [] [] (Nat.le_refl _) (Nat.zero_le _) (Nat.zero_le _)
  unfold key_read.f
  exact ev_pos (by omega) this
def getW (l : List UInt8) : List Cl × Int := if (kp l).2 = 0 then ((kp l).1, 0) else ([], (kp l).2)
theorem kget_ev (s : ByteArray) (hs : s.size ≤ 10000) : Ev (fun k => key_Get.f k s) ((getW (L s)).1.map s51, (getW (L s)).2) := by
  unfold key_Get.f
  refine ev_bind (kread_ev s hs) (ev_some' ?_)
  unfold readW getW
  by_cases h : (kp (L s)).2 = 0
  · rw [if_pos h, if_pos h]
  · rw [if_neg h, if_neg h]; rfl
theorem kget_of (s : ByteArray) (hs : s.size ≤ 10000) {l : List Cl} {e : Int} (h : kp (L s) = (l, e)) (hl : e ≠ 0 → l = []) : Ev (fun k => key_Get.f k s) (l.map s51, e) := by
  refine ev_eq (kget_ev s hs) ?_
  unfold getW
  rw [h]
  by_cases q : e = 0
  · simp [q]
  · simp [q, hl q]
/-! ### Part -/
def partV (l : List UInt8) (n : Int) : ByteArray × Int := if (kp l).2 = 0 then (if n < 0 ∨ n > ((kp l).1.length : Int) then (⟨#[]⟩, 4) else (B (body ((kp l).1.take n.toNat)), 0)) else (⟨#[]⟩, (kp l).2)
theorem rd_some {q : List Int} {i : Nat} {x : Int} (h : q[i]? = some x) : rd q (i : Int) = x := by
  unfold rd
  rw [Int.toNat_natCast, List.getD_eq_getElem?_getD, h]
  rfl
theorem kput_take (cs : List Cl) (k : Nat) : (kput cs).take (body (cs.take k)).length = body (cs.take k) := by
  have : kput cs = body (cs.take k) ++ kput (cs.drop k) := by rw [← kput_append, List.take_append_drop]
  rw [this, List.take_left]
theorem body_take_le (cs : List Cl) (k : Nat) : (body (cs.take k)).length < (kput cs).length := by
  have : kput cs = body (cs.take k) ++ kput (cs.drop k) := by rw [← kput_append, List.take_append_drop]
  rw [this, List.length_append]
  have : (kput (cs.drop k)).length = (body (cs.drop k)).length + 1 := by unfold kput; rw [List.length_append]; rfl
  omega
theorem kpart_ev (s : ByteArray) (n : Int) (hs : s.size ≤ 10000) : Ev (fun k => key_Part.f k s n) (partV (L s) n) := by
  unfold key_Part.f
  have hread := kread_ev s hs
  rcases kp_res (L s) with ⟨cs, e, hr, el⟩ | e | e
  rotate_left
  · rw [show readW (L s) = ([], [], 7) by unfold readW; rw [e]; rfl] at hread
    rw [show partV (L s) n = (⟨#[]⟩, 7) by unfold partV; rw [e]; rfl]
    exact ev_bind hread (ev_neg (by decide) ev_some)
  · rw [show readW (L s) = ([], [], 3) by unfold readW; rw [e]; rfl] at hread
    rw [show partV (L s) n = (⟨#[]⟩, 3) by unfold partV; rw [e]; rfl]
    exact ev_bind hread (ev_neg (by decide) ev_some)
  rw [show readW (L s) = (cs.map s51, 0 :: places 0 cs, 0) by unfold readW; rw [e]; rfl] at hread
  refine ev_bind hread (ev_pos rfl ?_)
  have hlen : ((0 :: places 0 cs).length : Int) = (cs.length : Int) + 1 := by rw [List.length_cons, places_length]; omega
  simp only [hlen]
  have hP : partV (L s) n = if n < 0 ∨ n > (cs.length : Int) then (⟨#[]⟩, 4) else (B (body (cs.take n.toNat)), 0) := by unfold partV; rw [e]; exact if_pos rfl
  by_cases h1 : n < 0
  · rw [hP, if_pos (Or.inl h1)]; exact ev_pos h1 ev_some
  refine ev_neg h1 ?_
  by_cases h2 : n > (cs.length : Int)
  · rw [hP, if_pos (Or.inr h2)]; exact ev_pos (by omega) ev_some
  rw [show partV (L s) n = (B (body (cs.take n.toNat)), 0) by rw [hP, if_neg (by omega)]]
  have hp := places_get cs 0 n.toNat (by omega)
  have hrd := rd_some hp
  rw [show ((n.toNat : Nat) : Int) = n by omega, Nat.zero_add] at hrd
  rw [show ((0 : Nat) : Int) = 0 from rfl] at hrd
  have hb := body_take_le cs n.toNat
  have hsz : s.size = (kput cs).length := by rw [← L_length, el]
  simp only [hrd]
  refine ev_neg (by omega) (ev_pos (by omega) (ev_pos (by omega) (ev_pos (by omega) (ev_pos (by omega) (ev_some' ?_)))))
  rw [Int.toNat_natCast]
  refine congrArg (fun x => (x, (0 : Int))) (L_inj ?_)
  rw [L_to, el, kput_take, B_L]
/-! ### Compare -/
theorem or2_ev (a b : Int) : Ev (fun k => cmp_Or_int.f k [a, b]) (cmpOr a b) := by
  unfold cmp_Or_int.f
  refine ev_step ?_
  simp only [cmp_Or_int.l0, List.length_cons, List.length_nil]
  refine ev_pos (by omega) (ev_pos (by omega) (ev_pos (by omega) ?_))
  rw [show rd [a, b] 0 = a from rfl]
  unfold cmpOr
  by_cases ha : a = 0
  rotate_left
  · exact ev_neg ha (ev_some' (by rw [if_pos ha]))
  refine ev_pos ha (ev_step ?_)
  rw [if_neg (by simp [ha])]
  simp only [cmp_Or_int.l0, show wrap64 (0 + 1) = 1 by rw [w64 (by omega) (by omega)]; rfl]
  refine ev_pos (by omega) (ev_pos (by omega) (ev_pos (by simp) ?_))
  rw [show rd [a, b] 1 = b from rfl]
  by_cases hb : b = 0
  rotate_left
  · exact ev_neg hb (ev_some' rfl)
  refine ev_pos hb (ev_step ?_)
  simp only [cmp_Or_int.l0, show wrap64 (1 + 1) = 2 by rw [w64 (by omega) (by omega)]; rfl]
  exact ev_neg (by omega) (ev_some' hb.symm)
theorem cfunc_loop : ∀ (ra rb pa pb : List Cl), pa.length = pb.length → (pa ++ ra).length ≤ 1000 → Ev (fun k => col_Col.l0 k ((pa ++ ra).map s51) ((pb ++ rb).map s51) ((pa ++ ra).map s51) ((pa ++ ra).length : Int) (pa.length : Int)) (kcmp ra rb)
  | [], rb, pa, pb, hp, hl => by
    refine ev_step ?_
    simp only [col_Col.l0, len_map51]
    refine ev_neg (by simp) ?_
    cases rb with
    | nil => exact ev_neg (by simp; omega) ev_some
    | cons b rb => exact ev_pos (by simp; omega) ev_some
  | a :: ra, rb, pa, pb, hp, hl => by
    refine ev_step ?_
    rw [List.length_append, List.length_cons] at hl
    simp only [col_Col.l0, len_map51, rd51 (at_pre pa ra a), wsucc pa.length (by omega)]
    refine ev_pos (by rw [List.length_append, List.length_cons]; omega) (ev_pos (by omega) (ev_pos (by rw [List.length_append, List.length_cons]; omega) ?_))
    cases rb with
    | nil => exact ev_pos (by simp; omega) ev_some
    | cons b rb =>
      have hb : rd_T51 ((pb ++ b :: rb).map s51) (pa.length : Int) = s51 b := by rw [hp]; exact rd51 (at_pre pb rb b)
      simp only [hb]
      refine ev_neg (by rw [List.length_append, List.length_cons]; omega) (ev_pos (by rw [List.length_append, List.length_cons]; omega) ?_)
      have hc := compare_ev a.kd a.i a.u (B a.s) b.kd b.i b.u (B b.s)
      rw [B_L, B_L] at hc
      refine ev_bind hc ?_
      show Ev _ (cmpOr (ccmp a b) (kcmp ra rb))
      by_cases h0 : ccmp a b = 0
      · refine ev_pos h0 ?_
        have ih := cfunc_loop ra rb (pa ++ [a]) (pb ++ [b]) (by rw [snoc_len, snoc_len, hp]) (by rw [snoc_eq, List.length_append, List.length_cons]; exact hl)
        rw [snoc_eq, snoc_eq, snoc_len] at ih
        rw [h0, cmpOr_zero]
        exact ih
      · exact ev_neg h0 (ev_some' (by unfold cmpOr; rw [if_pos h0]))
theorem kcompare_ev (a b : List Cl) (ha : a.length ≤ 1000) : Ev (fun k => key_Compare.f k (a.map s51) (b.map s51)) (kcmp a b) := by
  unfold key_Compare.f
  have hm : mn (a.length : Int) (b.length : Int) = ((min a.length b.length : Nat) : Int) := by rw [mn_eq]; omega
  simp only [len_map51, hm, Int.toNat_natCast, ← List.map_take]
  refine ev_pos (by omega) (ev_pos (by omega) (ev_pos (by omega) ?_))
  have h1 := cfunc_loop (a.take (min a.length b.length)) (b.take (min a.length b.length)) [] [] rfl (by rw [List.nil_append, List.length_take]; omega)
  refine ev_bind (a := kcmp (a.take (min a.length b.length)) (b.take (min a.length b.length))) ?_ (ev_bind_now (cmpI_eq _ _) (ev_bind (or2_ev _ _) (ev_some' (kcmp_cut a b))))
  unfold col_Col.f
  rw [len_map51]
  exact h1
/-! ### the law's small functions -/
theorem kright_loop : ∀ (rest pre : List Cl), (∀ c ∈ pre ++ rest, Bd c) → (pre ++ rest).length ≤ 1000 → Ev (fun k => withylaw04_right.l0 k ((pre ++ rest).map s51) (pre.length : Int)) (decide (∀ c ∈ rest, Right c))
  | [], pre, hb, hl => by
    refine ev_step ?_
    simp only [withylaw04_right.l0, len_map51]
    exact ev_neg (by simp) (ev_some' (by simp))
  | c :: rest, pre, hb, hl => by
    have ih := kright_loop rest (pre ++ [c]) (by rw [snoc_eq]; exact hb) (by rw [snoc_eq]; exact hl)
    rw [snoc_eq, snoc_len] at ih
    rw [List.length_append, List.length_cons] at hl
    refine ev_step ?_
    simp only [withylaw04_right.l0, len_map51, rd51 (at_pre pre rest c), wsucc pre.length (by omega)]
    refine ev_pos (by rw [List.length_append, List.length_cons]; omega) (ev_pos (by omega) (ev_bind_now (a := (c.kd, c.i, c.u, B c.s)) rfl (ev_bind_now (a := decide (Right c)) (by rw [rright_eq, B_L]) ?_)))
    by_cases h : Right c
    · refine ev_pos (by simp [h]) (ev_eq ih ?_)
      simp only [List.forall_mem_cons, h, true_and]
    · refine ev_neg (by simp [h]) (ev_some' ?_)
      simp [h]
theorem kright_ev (cs : List Cl) (hb : ∀ c ∈ cs, Bd c) (hl : cs.length ≤ 1000) : Ev (fun k => withylaw04_right.f k (cs.map s51)) (decide (∀ c ∈ cs, Right c)) := kright_loop cs [] hb hl
theorem kref_loop : ∀ (rest pre : List Cl), (pre ++ rest).length ≤ 1000 → Ev (fun k => withylaw04_Ref.l0 k ((pre ++ rest).map s51) (pre.map s56) (pre.length : Int)) ((pre ++ rest).map s56)
  | [], pre, hl => by
    refine ev_step ?_
    simp only [withylaw04_Ref.l0, len_map51]
    exact ev_neg (by simp) (ev_some' (by simp))
  | c :: rest, pre, hl => by
    have ih := kref_loop rest (pre ++ [c]) (by rw [snoc_eq]; exact hl)
    rw [snoc_eq, snoc_len] at ih
    rw [List.length_append, List.length_cons] at hl
    refine ev_step ?_
    simp only [withylaw04_Ref.l0, len_map51, rd51 (at_pre pre rest c), wsucc pre.length (by omega)]
    refine ev_pos (by rw [List.length_append, List.length_cons]; omega) (ev_pos (by omega) (ev_bind_now (a := (c.kd, c.i, c.u, B c.s)) rfl (ev_pos (by rw [List.length_map]; omega) ?_)))
    rw [show (pre ++ [c]).map s56 = pre.map s56 ++ [s56 c] by simp] at ih
    exact ih
theorem kref_ev (cs : List Cl) (hl : cs.length ≤ 1000) : Ev (fun k => withylaw04_Ref.f k (cs.map s51)) (cs.map s56) := kref_loop cs [] hl
theorem same_bool (a b : Cl) : (!(a.kd == b.kd) || (!(a.i == b.i) || (!(a.u == b.u) || (!((B a.s).toList == (B b.s).toList))))) = !decide (a = b) := by
  rw [L_toList, L_toList, B_L, B_L]
  by_cases e : a = b
  · subst e; simp
  · by_cases q1 : a.kd = b.kd <;> by_cases q2 : a.i = b.i <;> by_cases q3 : a.u = b.u <;> by_cases q4 : a.s = b.s <;> simp [q1, q2, q3, q4, e]
    exact e (Cl.ext' q1 q2 q3 q4)
theorem ksame_loop : ∀ (ra rb pa pb : List Cl), pa.length = pb.length → ra.length = rb.length → (pa ++ ra).length ≤ 1000 → Ev (fun k => withyref04_Same.l0 k ((pa ++ ra).map s56) ((pb ++ rb).map s56) (pa.length : Int)) (decide (ra = rb))
  | [], [], pa, pb, hp, hr, hl => by
    refine ev_step ?_
    simp only [withyref04_Same.l0, len_map56]
    exact ev_neg (by simp) (ev_some' (by simp))
  | a :: ra, b :: rb, pa, pb, hp, hr, hl => by
    have ih := ksame_loop ra rb (pa ++ [a]) (pb ++ [b]) (by rw [snoc_len, snoc_len, hp]) (by simpa using hr) (by rw [snoc_eq]; exact hl)
    rw [snoc_eq, snoc_eq, snoc_len] at ih
    rw [List.length_append, List.length_cons] at hl
    have hb : rd_T56 ((pb ++ b :: rb).map s56) (pa.length : Int) = s56 b := by rw [hp]; exact rd56 (at_pre pb rb b)
    refine ev_step ?_
    simp only [withyref04_Same.l0, len_map56, rd56 (at_pre pa ra a), hb, wsucc pa.length (by omega)]
    refine ev_pos (by rw [List.length_append, List.length_cons]; omega) (ev_pos (by omega) (ev_pos (by rw [List.length_append, List.length_cons]; omega) ?_))
    have hsb := same_bool a b
    by_cases e : a = b
    · subst e
      refine ev_neg ?_ (ev_eq ih (by simp))
      show ¬ (!(a.kd == a.kd) || (!(a.i == a.i) || (!(a.u == a.u) || (!((B a.s).toList == (B a.s).toList))))) = true
      rw [hsb]; simp
    · refine ev_pos ?_ (ev_some' (by simp [e]))
      show (!(a.kd == b.kd) || (!(a.i == b.i) || (!(a.u == b.u) || (!((B a.s).toList == (B b.s).toList))))) = true
      rw [hsb]; simp [e]
theorem ksame_ev (a b : List Cl) (hl : a.length ≤ 1000) : Ev (fun k => withyref04_Same.f k (a.map s56) (b.map s56)) (decide (a = b)) := by
  unfold withyref04_Same.f
  simp only [len_map56]
  by_cases h : a.length = b.length
  · exact ev_pos (by omega) (ksame_loop a b [] [] rfl h hl)
  · exact ev_neg (by omega) (ev_some' (by simp; rintro rfl; exact h rfl))
/-! ### what is cut -/
def cutS (s : ByteArray) (n : Nat) : ByteArray := B ((L s).take n)
theorem cutS_L (s : ByteArray) (n : Nat) : L (cutS s n) = (L s).take n := B_L _
theorem cutS_size (s : ByteArray) (n : Nat) : (cutS s n).size ≤ n := by unfold cutS; rw [B_size, List.length_take]; omega
theorem extract_cut (s : ByteArray) (n : Nat) : s.extract 0 ((mn (s.size : Int) (n : Int)) : Int).toNat = cutS s n := by
  refine L_inj ?_
  rw [L_to, cutS_L, mn_eq]
  by_cases h : s.size ≤ n
  · rw [show (min (s.size : Int) (n : Int)).toNat = s.size by omega, List.take_of_length_le (by rw [L_length]; exact Nat.le_refl _), List.take_of_length_le (by rw [L_length]; exact h)]
  · rw [show (min (s.size : Int) (n : Int)).toNat = n by omega]
theorem mn_bounds (s : ByteArray) (n : Nat) : 0 ≤ mn (s.size : Int) (n : Int) ∧ mn (s.size : Int) (n : Int) ≤ (s.size : Int) := by rw [mn_eq]; omega
theorem cut_eq (a0 a1 a2 : Int) (s : ByteArray) : withylaw03_Cut.f a0 a1 a2 s = some (a0, a1, a2, cutS s 60) := by
  unfold withylaw03_Cut.f
  have this : 0 ≤ mn (s.size : Int) 60 ∧ mn (s.size : Int) 60 ≤ (s.size : Int) := mn_bounds s 60
  rw [if_pos this.1, if_pos this.2]
  exact congrArg (fun x => some (a0, a1, a2, x)) (extract_cut s 60)
def cut1 (c : Cl) : Cl := ⟨c.kd, c.i, c.u, c.s.take 60⟩
def cutC (l : List Cl) : List Cl := (l.take 8).map cut1
theorem kcut_loop : ∀ (rest pre : List Cl), (pre ++ rest).length ≤ 9223372036854775807 → pre.length ≤ 8 → Ev (fun k => withylaw04_Cut.l0 k ((pre ++ rest).map s51) ((pre.map cut1).map s51) (pre.length : Int)) ((cutC (pre ++ rest)).map s51)
  | [], pre, hl, h8 => by
    refine ev_step ?_
    simp only [withylaw04_Cut.l0, len_map51]
    refine ev_neg (by simp) (ev_some' ?_)
    unfold cutC
    rw [List.append_nil, List.take_of_length_le h8]
  | c :: rest, pre, hl, h8 => by
    refine ev_step ?_
    simp only [withylaw04_Cut.l0, len_map51, rd51 (at_pre pre rest c), wsucc pre.length (by omega)]
    refine ev_pos (by rw [List.length_append, List.length_cons]; omega) ?_
    by_cases h : pre.length < 8
    · have ih := kcut_loop rest (pre ++ [c]) (by rw [snoc_eq]; exact hl) (by rw [snoc_len]; omega)
      rw [snoc_eq, snoc_len, show ((pre ++ [c]).map cut1).map s51 = (pre.map cut1).map s51 ++ [s51 (cut1 c)] by simp] at ih
      refine ev_pos (by omega) (ev_pos (by omega) (ev_bind_now (cut_eq _ _ _ _) (ev_pos (by rw [List.length_map, List.length_map]; omega) ?_)))
      have e : s51 (cut1 c) = (⟨c.kd, c.i, c.u, cutS (B c.s) 60⟩ : S51) := by
        unfold cutS
        rw [B_L]
        rfl
      rw [e] at ih
      exact ih
    · refine ev_neg (by omega) (ev_some' ?_)
      unfold cutC
      rw [show 8 = pre.length by omega, List.take_left]
theorem kcut_ev (l : List S51) (hl : l.length ≤ 9223372036854775807) : Ev (fun k => withylaw04_Cut.f k l) ((cutC (l.map c51)).map s51) := by
  have := kcut_loop (l.map c51) [] (by simpa using hl) (Nat.zero_le _)
  rw [List.nil_append, map_s51] at this
  exact this
theorem wf_u64 {x : Int} (h : (Lit.int .u64 x).wf = true) : 0 ≤ x ∧ x ≤ 18446744073709551615 := wf_of h
theorem cutC_mem {l : List Cl} {c : Cl} (h : c ∈ cutC l) : ∃ x ∈ l, c = cut1 x := by
  unfold cutC at h
  obtain ⟨x, hx, rfl⟩ := List.mem_map.mp h
  exact ⟨x, List.mem_of_mem_take hx, rfl⟩
theorem cutC_len (l : List Cl) : (cutC l).length ≤ 8 := by unfold cutC; rw [List.length_map, List.length_take]; omega
theorem cutC_sm {l : List Cl} (h : ∀ c ∈ l, Bd c) : Sm (cutC l) := ⟨by have := cutC_len l; omega, fun c hc => by
  obtain ⟨x, hx, rfl⟩ := cutC_mem hc
  have := h x hx
  exact ⟨⟨this.i0, this.i1, this.u0, this.u1⟩, by show (x.s.take 60).length ≤ 1000; rw [List.length_take]; omega⟩⟩
theorem cutC_short {l : List Cl} {c : Cl} (hc : c ∈ cutC l) : c.s.length ≤ 60 := by
  obtain ⟨x, hx, rfl⟩ := cutC_mem hc
  show (x.s.take 60).length ≤ 60
  rw [List.length_take]; omega
theorem cutC_kput (l : List Cl) : (kput (cutC l)).length ≤ 1201 := by
  have h : ∀ (cs : List Cl) (_ : ∀ c ∈ cs, c.s.length ≤ 60), (body cs).length ≤ 140 * cs.length := by
    intro cs
    induction cs with
    | nil => intro _; simp [body]
    | cons c cs ih =>
      intro h
      have h1 := ih fun x hx => h x (List.mem_cons_of_mem _ hx)
      have h2 := h c (List.mem_cons_self ..)
      have h3 := cput_le c
      rw [body_cons, List.length_append, List.length_cons]
      omega
  have h1 := h (cutC l) fun c hc => cutC_short hc
  have h2 := cutC_len l
  unfold kput
  rw [List.length_append]
  simp only [List.length_cons, List.length_nil]
  omega
/-- Bytes that are a key of few bytes: few columns, none long. -/
theorem sm_of {cs : List Cl} (hr : RB cs) (h : (kput cs).length ≤ 1000) : Sm cs := by
  have hb : ∀ (cs : List Cl), cs.length ≤ (body cs).length ∧ ∀ c ∈ cs, (cput c).length ≤ (body cs).length := by
    intro cs
    induction cs with
    | nil => exact ⟨Nat.le_refl _, fun c hc => by cases hc⟩
    | cons c cs ih =>
      have e : (cput c).length = (ctail c).length + 1 := rfl
      rw [body_cons, List.length_append, List.length_cons]
      refine ⟨by omega, fun x hx => ?_⟩
      rcases List.mem_cons.mp hx with rfl | hx
      · omega
      · have := ih.2 x hx; omega
  have h1 := hb cs
  have h2 : (kput cs).length = (body cs).length + 1 := by unfold kput; rw [List.length_append]; rfl
  refine ⟨by omega, fun c hc => ⟨(hr c hc).2, ?_⟩⟩
  have h3 := h1.2 c hc
  rcases (hr c hc).1 with ⟨k, _, _, q⟩ | ⟨k, _, _, q⟩ | ⟨k, _, q⟩ | ⟨k, _, q⟩ | ⟨k, _, _⟩
  · rw [q]; simp
  · rw [q]; simp
  · rw [q]; simp
  · rw [q]; simp
  · have e : (cput c).length = (ctail c).length + 1 := rfl
    rw [ctail_4 k, List.length_append, escL_len] at e
    omega
end Go.Proofs.YthaicofleloplaaDoor.Spec
namespace Go.Proofs.YthaicofleloplaaDoor.Spec
open Go.RowKit Go.Proofs.YthaicofleloplaaDoorW.PrintWords Go.Proofs.YthaicofleloplaaDoorW.PrintLast Go.Proofs.YthaicofleloplaaDoorW.PrintMore Go.Proofs.YthaicofleloplaaDoorEv Go.Proofs.YthaicofleloplaaDoorCol Go.Proofs.YthaicofleloplaaDoorR Go.Proofs.YthaicofleloplaaDoor.P

theorem fkput (cs : List Cl) (hl : cs.length ≤ 1000) (h : ∀ c ∈ cs, (-9223372036854775808 ≤ c.i ∧ c.i ≤ 9223372036854775807 ∧ 0 ≤ c.u ∧ c.u ≤ 18446744073709551615) ∧ c.s.length ≤ 1000) (r : ByteArray × Int) (e : kputV cs = r) : Ev (fun k => key_Put.f k (cs.map s51)) r :=
  ev_eq (kput_ev cs ⟨hl, fun c hc => ⟨⟨(h c hc).1.1, (h c hc).1.2.1, (h c hc).1.2.2.1, (h c hc).1.2.2.2⟩, (h c hc).2⟩⟩) e
def yes : Cl := ⟨1, 0, 1, []⟩
theorem kfixed_ev : Ev (fun k => withylaw04_fixed.f k) true := by
  unfold withylaw04_fixed.f
  refine ev_bind (fkput [zero, yes] (by decide) (by decide) (B [16, 33, 1], 0) rfl) ?_
  refine ev_bind (fkput [] (by decide) (by decide) (B [1], 0) rfl) ?_
  refine ev_bind (fkput [⟨9, 0, 0, []⟩] (by decide) (by decide) (⟨#[]⟩, 3) rfl) ?_
  refine ev_bind (kget_of (⟨#[16, 33, 1]⟩ : ByteArray) (by decide) (show kp [16, 33, 1] = ([zero, yes], 0) by decide) (by decide)) ?_
  refine ev_bind (kget_of (⟨#[1]⟩ : ByteArray) (by decide) (show kp [1] = ([], 0) by decide) (by decide)) ?_
  refine ev_bind (kget_of (⟨#[16, 1, 16]⟩ : ByteArray) (by decide) (show kp [16, 1, 16] = ([], 3) by decide) (by decide)) ?_
  refine ev_bind (kget_of (⟨#[16]⟩ : ByteArray) (by decide) (show kp [16] = ([], 7) by decide) (by decide)) ?_
  refine ev_bind (kget_of (⟨#[5, 1]⟩ : ByteArray) (by decide) (show kp [5, 1] = ([], 3) by decide) (by decide)) ?_
  have hk : kp [16, 33, 1] = ([zero, yes], 0) := by decide
  refine ev_bind (ev_eq (kpart_ev (⟨#[16, 33, 1]⟩ : ByteArray) 1 (by decide)) (show partV [16, 33, 1] 1 = (B [16], 0) by unfold partV; rw [hk]; rfl)) ?_
  refine ev_bind (ev_eq (kpart_ev (⟨#[16, 33, 1]⟩ : ByteArray) 3 (by decide)) (show partV [16, 33, 1] 3 = (⟨#[]⟩, 4) by unfold partV; rw [hk]; rfl)) ?_
  refine ev_pos (by rw [L_toList, B_L]) (ev_pos rfl (ev_pos (by rw [L_toList, B_L]) (ev_pos rfl (ev_pos rfl ?_))))
  refine ev_bind (kref_ev [zero, yes] (by decide)) (ev_bind (ev_eq (ksame_ev [zero, yes] [zero, yes] (by decide)) (show decide _ = true by decide)) (ev_pos rfl ?_))
  refine ev_pos rfl (ev_pos rfl (ev_pos rfl (ev_pos rfl (ev_pos rfl (ev_pos rfl (ev_pos (by rw [L_toList, B_L]) (ev_pos rfl (ev_pos rfl (ev_pos (by decide) ?_)))))))))
  refine ev_bind (kcompare_ev [zero, yes] [zero] (by decide)) (ev_pos rfl (ev_bind (kcompare_ev [] [zero, yes] (by decide)) (ev_pos rfl (ev_bind (kcompare_ev [zero, yes] [zero, yes] (by decide)) (ev_some' (by decide))))))
theorem kfin_ev : Ev (fun k => (withylaw04_fixed.f k).bind fun t => some t) true := ev_bind kfixed_ev ev_some
end Go.Proofs.YthaicofleloplaaDoor.Spec
