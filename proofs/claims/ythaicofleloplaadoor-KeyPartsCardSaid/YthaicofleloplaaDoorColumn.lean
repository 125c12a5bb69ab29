/- What is proved here: plain facts on columns: which may be, their bytes, the column of bytes, their order. Conditions: as each theorem names them. -/
import Derived.Test.YthaicofleloplaaDoorWord
import Derived.Test.YthaicofleloplaaDoorRepl
import Derived.Test.YthaicofleloplaaDoorMath
set_option linter.unusedVariables false
set_option linter.unusedSimpArgs false
namespace Go.Proofs.YthaicofleloplaaDoorCol
open Go.RowKit Go.Proofs.YthaicofleloplaaDoorEv Go.Proofs.YthaicofleloplaaDoorR

/-! ### texts -/
def tcons (c : UInt8) (k : Nat) (p : List UInt8 × Nat × Int) : List UInt8 × Nat × Int := if p.2.2 = 0 then (c :: p.1, p.2.1 + k, 0) else ([], 0, p.2.2)
/-- The text of a list of bytes, how many it has, what is wrong. -/
def tparse : List UInt8 → List UInt8 × Nat × Int
  | [] => ([], 0, 7)
  | [_] => ([], 0, 7)
  | c :: d :: r => if c = 0 then (if d = 1 then ([], 2, 0) else if d = 255 then tcons 0 2 (tparse r) else ([], 0, 3)) else tcons c 1 (tparse (d :: r))
theorem tparse_ne {c : UInt8} (h : c ≠ 0) (r : List UInt8) : tparse (c :: r) = tcons c 1 (tparse r) := by
  cases r with
  | nil => rfl
  | cons d r => show (if c = 0 then _ else _) = _; rw [if_neg h]
theorem tparse_esc (r : List UInt8) : tparse (0 :: 255 :: r) = tcons 0 2 (tparse r) := by
  show (if (0 : UInt8) = 0 then (if (255 : UInt8) = 1 then _ else if (255 : UInt8) = 255 then _ else _) else _) = _
  rw [if_pos rfl, if_neg (by decide), if_pos rfl]
theorem tparse_end (r : List UInt8) : tparse (0 :: 1 :: r) = ([], 2, 0) := rfl
theorem tparse_back : ∀ (s x : List UInt8), tparse (escL s ++ 0 :: 1 :: x) = (s, (escL s).length + 2, 0)
  | [], x => rfl
  | c :: s, x => by
    have ih := tparse_back s x
    unfold escL
    by_cases h : c = 0
    · subst h
      rw [if_pos rfl]
      show tparse (0 :: 255 :: (escL s ++ 0 :: 1 :: x)) = _
      rw [tparse_esc, ih]
      rfl
    · rw [if_neg h]
      show tparse (c :: (escL s ++ 0 :: 1 :: x)) = _
      rw [tparse_ne h, ih]
      rfl
theorem tparse_short : ∀ (s : List UInt8) (j : Nat), j < (escL s).length + 2 → tparse ((escL s ++ [0, 1]).take j) = ([], 0, 7)
  | [], j, h => by
    have : j = 0 ∨ j = 1 := by simp [escL] at h; omega
    rcases this with rfl | rfl <;> rfl
  | c :: s, j, h => by
    unfold escL at h ⊢
    by_cases hc : c = 0
    · subst hc
      rw [if_pos rfl] at h ⊢
      match j, h with
      | 0, _ => rfl
      | 1, _ => rfl
      | j + 2, h =>
        have ih := tparse_short s j (by simpa using h)
        show tparse (0 :: 255 :: (escL s ++ [0, 1]).take j) = _
        rw [tparse_esc, ih]
        rfl
    · rw [if_neg hc] at h ⊢
      match j, h with
      | 0, _ => rfl
      | j + 1, h =>
        have ih := tparse_short s j (by simpa using h)
        show tparse (c :: (escL s ++ [0, 1]).take j) = _
        rw [tparse_ne hc, ih]
        rfl
def TOnce (l : List UInt8) : Prop := (∃ s m, tparse l = (s, m, 0) ∧ 0 < m ∧ m ≤ l.length ∧ l.take m = escL s ++ [0, 1]) ∨ tparse l = ([], 0, 7) ∨ tparse l = ([], 0, 3)
theorem tparse_once : ∀ (n : Nat) (l : List UInt8), l.length ≤ n → TOnce l
  | _, [], _ => .inr (.inl rfl)
  | 0, _ :: _, h => by simp at h
  | n + 1, c :: r, h => by
    have hr : r.length ≤ n := by simpa using h
    by_cases hc : c = 0
    · subst hc
      cases r with
      | nil => exact .inr (.inl rfl)
      | cons d r =>
        by_cases h1 : d = 1
        · subst h1
          exact .inl ⟨[], 2, rfl, by omega, by show 2 ≤ r.length + 2; omega, rfl⟩
        by_cases h2 : d = 255
        · subst h2
          have hr' : r.length ≤ n := by have : r.length + 1 ≤ n := hr; omega
          unfold TOnce
          rw [tparse_esc]
          rcases tparse_once n r hr' with ⟨s, m, e, p0, p1, p2⟩ | e | e
          · refine .inl ⟨0 :: s, m + 2, by rw [e]; rfl, by omega, by show m + 2 ≤ r.length + 2; omega, ?_⟩
            show 0 :: 255 :: r.take m = _
            rw [p2]
            simp [escL]
          · rw [e]; exact .inr (.inl rfl)
          · rw [e]; exact .inr (.inr rfl)
        · refine .inr (.inr ?_)
          show (if (0 : UInt8) = 0 then (if d = 1 then _ else if d = 255 then _ else _) else _) = _
          rw [if_pos rfl, if_neg h1, if_neg h2]
    · unfold TOnce
      rw [tparse_ne hc]
      rcases tparse_once n r hr with ⟨s, m, e, p0, p1, p2⟩ | e | e
      · refine .inl ⟨c :: s, m + 1, by rw [e]; rfl, by omega, by show m + 1 ≤ r.length + 1; omega, ?_⟩
        show c :: r.take m = _
        rw [p2]
        simp [escL, hc]
      · rw [e]; exact .inr (.inl rfl)
      · rw [e]; exact .inr (.inr rfl)
theorem esc_before : ∀ (s t : List UInt8), Op.bytesLess s t = true → Before (escL s ++ [0, 1]) (escL t ++ [0, 1])
  | s, [], h => by have h' := Go.Proofs.YthaicofleloplaaDoorMath.lt_nil s; rw [show Go.Proofs.YthaicofleloplaaDoorMath.lt s [] = true from h] at h'; cases h'
  | [], c :: t, _ => by
    unfold escL
    by_cases hc : c = 0
    · subst hc
      exact .inr ⟨rfl, .inl (by decide)⟩
    · rw [if_neg hc]
      refine .inl ?_
      show (0 : UInt8).toNat < c.toNat
      have : c.toNat ≠ 0 := fun q => hc (by rw [← UInt8.toNat_inj]; exact q)
      show 0 < _
      omega
  | b :: s, c :: t, h => by
    replace h : (decide (b < c) || (b == c && Op.bytesLess s t)) = true := h
    simp only [Bool.or_eq_true, decide_eq_true_eq, Bool.and_eq_true, beq_iff_eq] at h
    rcases h with h | ⟨rfl, h⟩
    · rw [UInt8.lt_iff_toNat_lt] at h
      have hc : c ≠ 0 := by rintro rfl; exact absurd h (Nat.not_lt_zero _)
      unfold escL
      rw [if_neg hc]
      by_cases hb : b = 0
      · rw [if_pos hb]; subst hb; exact .inl h
      · rw [if_neg hb]; exact .inl h
    · have ih := esc_before s t h
      unfold escL
      by_cases hb : b = 0
      · rw [if_pos hb, if_pos hb]; exact .inr ⟨rfl, .inr ⟨rfl, ih⟩⟩
      · rw [if_neg hb, if_neg hb]; exact .inr ⟨rfl, ih⟩

/-! ### columns -/
structure Cl where
  kd : Int
  i : Int
  u : Int
  s : List UInt8
theorem Cl.ext' {a b : Cl} (h1 : a.kd = b.kd) (h2 : a.i = b.i) (h3 : a.u = b.u) (h4 : a.s = b.s) : a = b := by
  cases a; cases b; simp_all
def zero : Cl := ⟨0, 0, 0, []⟩
def Right (c : Cl) : Prop := (c.kd = 0 ∧ c.i = 0 ∧ c.u = 0 ∧ c.s = []) ∨ (c.kd = 1 ∧ c.i = 0 ∧ c.u ≤ 1 ∧ c.s = []) ∨ (c.kd = 2 ∧ c.u = 0 ∧ c.s = []) ∨ (c.kd = 3 ∧ c.i = 0 ∧ c.s = []) ∨ (c.kd = 4 ∧ c.i = 0 ∧ c.u = 0)
instance (c : Cl) : Decidable (Right c) := by unfold Right; exact inferInstance
structure Bd (c : Cl) : Prop where
  i0 : -9223372036854775808 ≤ c.i
  i1 : c.i ≤ 9223372036854775807
  u0 : 0 ≤ c.u
  u1 : c.u ≤ 18446744073709551615
def chead (c : Cl) : Nat := if c.kd = 1 then (32 + c.u).toNat else (16 * (c.kd + 1)).toNat
def ctail (c : Cl) : List UInt8 := if c.kd = 2 then be 8 (c.i + 9223372036854775808).toNat else if c.kd = 3 then wput c.u.toNat else if c.kd = 4 then escL c.s ++ [0, 1] else []
def cput (c : Cl) : List UInt8 := UInt8.ofNat (chead c) :: ctail c
theorem chead_lt {c : Cl} (h : Right c) (b : Bd c) : chead c < 256 := by
  have := b.u0
  unfold chead
  rcases h with ⟨h, _⟩ | ⟨h, _, h2, _⟩ | ⟨h, _⟩ | ⟨h, _⟩ | ⟨h, _⟩ <;> rw [h] <;> simp <;> omega
/-- The column of a list of bytes, how many it has, what is wrong. -/
def cparse : List UInt8 → Cl × Nat × Int
  | [] => (zero, 0, 7)
  | c :: r =>
    if c = 16 then (zero, 1, 0)
    else if c = 32 then (⟨1, 0, 0, []⟩, 1, 0)
    else if c = 33 then (⟨1, 0, 1, []⟩, 1, 0)
    else if c = 48 then (if r.length < 8 then (zero, 0, 7) else (⟨2, (val (r.take 8) : Int) - 9223372036854775808, 0, []⟩, 9, 0))
    else if c = 64 then (if (wparse r).2.2 = 0 then (⟨3, 0, ((wparse r).1 : Int), []⟩, (wparse r).2.1 + 1, 0) else (zero, 0, (wparse r).2.2))
    else if c = 80 then (if (tparse r).2.2 = 0 then (⟨4, 0, 0, (tparse r).1⟩, (tparse r).2.1 + 1, 0) else (zero, 0, (tparse r).2.2))
    else (zero, 0, 3)
theorem cparse_48 (r : List UInt8) : cparse (48 :: r) = if r.length < 8 then (zero, 0, 7) else (⟨2, (val (r.take 8) : Int) - 9223372036854775808, 0, []⟩, 9, 0) := rfl
theorem cparse_64 (r : List UInt8) : cparse (64 :: r) = if (wparse r).2.2 = 0 then (⟨3, 0, ((wparse r).1 : Int), []⟩, (wparse r).2.1 + 1, 0) else (zero, 0, (wparse r).2.2) := rfl
theorem cparse_80 (r : List UInt8) : cparse (80 :: r) = if (tparse r).2.2 = 0 then (⟨4, 0, 0, (tparse r).1⟩, (tparse r).2.1 + 1, 0) else (zero, 0, (tparse r).2.2) := rfl
theorem cparse_back {c : Cl} (h : Right c) (b : Bd c) (x : List UInt8) : cparse (cput c ++ x) = (c, (cput c).length, 0) := by
  obtain ⟨kd, i, u, s⟩ := c
  obtain ⟨i0, i1, u0, u1⟩ := b
  simp only at i0 i1 u0 u1
  rcases h with ⟨h1, h2, h3, h4⟩ | ⟨h1, h2, h3, h4⟩ | ⟨h1, h2, h3⟩ | ⟨h1, h2, h3⟩ | ⟨h1, h2, h3⟩ <;> simp only at h1 h2 h3
  · simp only at h4; subst h1 h2 h3 h4; rfl
  · simp only at h4
    subst h1 h2 h4
    have : u = 0 ∨ u = 1 := by omega
    rcases this with rfl | rfl <;> rfl
  · subst h1 h2 h3
    have e : (i + 9223372036854775808).toNat < 256 ^ 8 := by simp; omega
    show cparse (48 :: (be 8 (i + 9223372036854775808).toNat ++ x)) = _
    have e2 : (be 8 (i + 9223372036854775808).toNat ++ x).take 8 = be 8 (i + 9223372036854775808).toNat := by
      rw [List.take_append_of_le_length (by rw [be_length]; exact Nat.le_refl _), List.take_of_length_le (by rw [be_length]; exact Nat.le_refl _)]
    rw [cparse_48, if_neg (by rw [List.length_append, be_length]; omega), e2, val_be _ _ e]
    have e3 : (((i + 9223372036854775808).toNat : Nat) : Int) - 9223372036854775808 = i := by omega
    rw [e3]
    show _ = (_, (be 8 _).length + 1, _)
    rw [be_length]
  · subst h1 h2 h3
    have hw := wparse_back (n := u.toNat) (by omega) x
    show cparse (64 :: (wput u.toNat ++ x)) = _
    rw [cparse_64, hw, if_pos rfl]
    have e3 : ((u.toNat : Nat) : Int) = u := by omega
    rw [e3]
    rfl
  · subst h1 h2 h3
    have hw := tparse_back s x
    show cparse (80 :: (escL s ++ [0, 1] ++ x)) = _
    rw [List.append_assoc]
    show cparse (80 :: (escL s ++ 0 :: 1 :: x)) = _
    rw [cparse_80, hw, if_pos rfl]
    show _ = (_, (escL s ++ [0, 1]).length + 1, _)
    rw [List.length_append]
    rfl
theorem cparse_short {c : Cl} (h : Right c) (b : Bd c) {j : Nat} (hj : j < (cput c).length) : cparse ((cput c).take j) = (zero, 0, 7) := by
  cases j with
  | zero => rfl
  | succ j =>
    obtain ⟨kd, i, u, s⟩ := c
    obtain ⟨i0, i1, u0, u1⟩ := b
    simp only at i0 i1 u0 u1
    rcases h with ⟨h1, h2, h3, h4⟩ | ⟨h1, h2, h3, h4⟩ | ⟨h1, h2, h3⟩ | ⟨h1, h2, h3⟩ | ⟨h1, h2, h3⟩ <;> simp only at h1 h2 h3
    · simp only at h4; subst h1 h2 h3 h4; simp [cput, ctail] at hj
    · simp only at h4; subst h1 h2 h4; simp [cput, ctail] at hj
    · subst h1 h2 h3
      have hj' : j < 8 := by
        have : j + 1 < (be 8 (i + 9223372036854775808).toNat).length + 1 := hj
        rw [be_length] at this; omega
      show cparse (48 :: (be 8 (i + 9223372036854775808).toNat).take j) = _
      rw [cparse_48, if_pos (by rw [List.length_take, be_length]; omega)]
    · subst h1 h2 h3
      have hj' : j < (wput u.toNat).length := by
        have : j + 1 < (wput u.toNat).length + 1 := hj
        omega
      have hw := wparse_short (n := u.toNat) (by omega) hj'
      show cparse (64 :: (wput u.toNat).take j) = _
      rw [cparse_64, hw, if_neg (by decide)]
    · subst h1 h2 h3
      have hj' : j < (escL s).length + 2 := by
        have : j + 1 < (escL s ++ [0, 1]).length + 1 := hj
        rw [List.length_append] at this
        have e : ([0, 1] : List UInt8).length = 2 := rfl
        omega
      have hw := tparse_short s j hj'
      show cparse (80 :: (escL s ++ [0, 1]).take j) = _
      rw [cparse_80, hw, if_neg (by decide)]
theorem cparse_once (l : List UInt8) : (∃ c m, cparse l = (c, m, 0) ∧ Right c ∧ Bd c ∧ 0 < m ∧ m ≤ l.length ∧ l.take m = cput c) ∨ cparse l = (zero, 0, 7) ∨ cparse l = (zero, 0, 3) := by
  cases l with
  | nil => exact .inr (.inl rfl)
  | cons c r =>
    by_cases h1 : c = 16
    · subst h1
      exact .inl ⟨zero, 1, rfl, .inl ⟨rfl, rfl, rfl, rfl⟩, ⟨by decide, by decide, by decide, by decide⟩, by omega, by simp, rfl⟩
    by_cases h2 : c = 32
    · subst h2
      exact .inl ⟨⟨1, 0, 0, []⟩, 1, rfl, .inr (.inl ⟨rfl, rfl, by decide, rfl⟩), ⟨by decide, by decide, by decide, by decide⟩, by omega, by simp, rfl⟩
    by_cases h3 : c = 33
    · subst h3
      exact .inl ⟨⟨1, 0, 1, []⟩, 1, rfl, .inr (.inl ⟨rfl, rfl, by decide, rfl⟩), ⟨by decide, by decide, by decide, by decide⟩, by omega, by simp, rfl⟩
    by_cases h4 : c = 48
    · subst h4
      rw [cparse_48]
      by_cases q : r.length < 8
      · rw [if_pos q]; exact .inr (.inl rfl)
      · rw [if_neg q]
        have hl : (r.take 8).length = 8 := by rw [List.length_take]; omega
        have hv := val_lt 8 _ hl
        have e8 : (256 : Nat) ^ 8 = 18446744073709551616 := by decide
        refine .inl ⟨_, 9, rfl, .inr (.inr (.inl ⟨rfl, rfl, rfl⟩)), ⟨by simp only; omega, by simp only; omega, by simp only; omega, by simp only; omega⟩, by omega, by show 9 ≤ r.length + 1; omega, ?_⟩
        show 48 :: r.take 8 = 48 :: be 8 ((val (r.take 8) : Int) - 9223372036854775808 + 9223372036854775808).toNat
        rw [show ((val (r.take 8) : Int) - 9223372036854775808 + 9223372036854775808).toNat = val (r.take 8) by omega, be_val 8 _ hl]
    by_cases h5 : c = 64
    · subst h5
      rw [cparse_64]
      rcases wparse_once r with ⟨n, m, e, p0, p1, p2, p3⟩ | e | e
      · rw [e, if_pos rfl]
        refine .inl ⟨_, m + 1, rfl, .inr (.inr (.inr (.inl ⟨rfl, rfl, rfl⟩))), ⟨by simp only; omega, by simp only; omega, by simp only; omega, by simp only; omega⟩, by omega, by show m + 1 ≤ r.length + 1; omega, ?_⟩
        show 64 :: r.take m = 64 :: wput (n : Int).toNat
        rw [p3, Int.toNat_natCast]
      · rw [e, if_neg (by decide)]; exact .inr (.inl rfl)
      · rw [e, if_neg (by decide)]; exact .inr (.inr rfl)
    by_cases h6 : c = 80
    · subst h6
      rw [cparse_80]
      rcases tparse_once _ r (Nat.le_refl _) with ⟨s, m, e, p0, p1, p2⟩ | e | e
      · rw [e, if_pos rfl]
        refine .inl ⟨_, m + 1, rfl, .inr (.inr (.inr (.inr ⟨rfl, rfl, rfl⟩))), ⟨by simp only; omega, by simp only; omega, by simp only; omega, by simp only; omega⟩, by omega, by show m + 1 ≤ r.length + 1; omega, ?_⟩
        show 80 :: r.take m = 80 :: (escL s ++ [0, 1])
        rw [p2]
      · rw [e, if_neg (by decide)]; exact .inr (.inl rfl)
      · rw [e, if_neg (by decide)]; exact .inr (.inr rfl)
    · refine .inr (.inr ?_)
      simp only [cparse]
      rw [if_neg h1, if_neg h2, if_neg h3, if_neg h4, if_neg h5, if_neg h6]

/-! ### the order of columns -/
def icmp (a b : Int) : Int := if a < b then -1 else if a > b then 1 else 0
def scmp (a b : List UInt8) : Int := if Op.bytesLess a b = true then -1 else if Op.bytesLess b a = true then 1 else 0
def cmpOr (a b : Int) : Int := if a ≠ 0 then a else b
theorem cmpOr_zero (b : Int) : cmpOr 0 b = b := rfl
theorem cmpOr_one (b : Int) : cmpOr 1 b = 1 := rfl
theorem cmpOr_neg (b : Int) : cmpOr (-1) b = -1 := rfl
def ccmp (a b : Cl) : Int := cmpOr (icmp a.kd b.kd) (cmpOr (icmp a.i b.i) (cmpOr (icmp a.u b.u) (scmp a.s b.s)))
theorem icmp_cases (a b : Int) : (icmp a b = -1 ∧ a < b ∧ icmp b a = 1) ∨ (icmp a b = 0 ∧ a = b ∧ icmp b a = 0) ∨ (icmp a b = 1 ∧ b < a ∧ icmp b a = -1) := by
  unfold icmp
  by_cases h : a < b
  · rw [if_pos h, if_neg (by omega), if_pos (by omega)]; exact .inl ⟨rfl, h, rfl⟩
  · by_cases h2 : a > b
    · rw [if_neg h, if_pos h2, if_pos (by omega)]; exact .inr (.inr ⟨rfl, h2, rfl⟩)
    · rw [if_neg h, if_neg h2, if_neg (by omega), if_neg (by omega)]; exact .inr (.inl ⟨rfl, by omega, rfl⟩)
theorem scmp_cases (a b : List UInt8) : (scmp a b = -1 ∧ Op.bytesLess a b = true ∧ scmp b a = 1) ∨ (scmp a b = 0 ∧ a = b ∧ scmp b a = 0) ∨ (scmp a b = 1 ∧ Op.bytesLess b a = true ∧ scmp b a = -1) := by
  unfold scmp
  rcases Go.Proofs.YthaicofleloplaaDoorMath.lt_total a b with h | h | h
  · have h2 := Go.Proofs.YthaicofleloplaaDoorMath.lt_asymm h
    exact .inl ⟨if_pos h, h, by rw [if_neg (by rw [show Op.bytesLess b a = false from h2]; decide), if_pos h]⟩
  · subst h
    have h2 : Op.bytesLess a a = false := Go.Proofs.YthaicofleloplaaDoorMath.lt_irrefl a
    rw [h2]
    exact .inr (.inl ⟨rfl, rfl, rfl⟩)
  · have h2 := Go.Proofs.YthaicofleloplaaDoorMath.lt_asymm h
    exact .inr (.inr ⟨by rw [if_neg (by rw [show Op.bytesLess a b = false from h2]; decide), if_pos h], h, if_pos h⟩)
theorem ccmp_cases (a b : Cl) : (ccmp a b = -1 ∧ ccmp b a = 1) ∨ (ccmp a b = 0 ∧ ccmp b a = 0 ∧ a = b) ∨ (ccmp a b = 1 ∧ ccmp b a = -1) := by
  unfold ccmp
  rcases icmp_cases a.kd b.kd with ⟨e, _, e'⟩ | ⟨e, h1, e'⟩ | ⟨e, _, e'⟩
  · rw [e, e']; exact .inl ⟨rfl, rfl⟩
  · rw [e, e', cmpOr_zero, cmpOr_zero]
    rcases icmp_cases a.i b.i with ⟨e, _, e'⟩ | ⟨e, h2, e'⟩ | ⟨e, _, e'⟩
    · rw [e, e']; exact .inl ⟨rfl, rfl⟩
    · rw [e, e', cmpOr_zero, cmpOr_zero]
      rcases icmp_cases a.u b.u with ⟨e, _, e'⟩ | ⟨e, h3, e'⟩ | ⟨e, _, e'⟩
      · rw [e, e']; exact .inl ⟨rfl, rfl⟩
      · rw [e, e', cmpOr_zero, cmpOr_zero]
        rcases scmp_cases a.s b.s with ⟨e, _, e'⟩ | ⟨e, h4, e'⟩ | ⟨e, _, e'⟩
        · rw [e, e']; exact .inl ⟨rfl, rfl⟩
        · rw [e, e']; exact .inr (.inl ⟨rfl, rfl, Cl.ext' h1 h2 h3 h4⟩)
        · rw [e, e']; exact .inr (.inr ⟨rfl, rfl⟩)
      · rw [e, e']; exact .inr (.inr ⟨rfl, rfl⟩)
    · rw [e, e']; exact .inr (.inr ⟨rfl, rfl⟩)
  · rw [e, e']; exact .inr (.inr ⟨rfl, rfl⟩)
theorem ctail_2 {c : Cl} (h : c.kd = 2) : ctail c = be 8 (c.i + 9223372036854775808).toNat := by unfold ctail; rw [if_pos h]
theorem ctail_3 {c : Cl} (h : c.kd = 3) : ctail c = wput c.u.toNat := by unfold ctail; rw [if_neg (by omega), if_pos h]
theorem ctail_4 {c : Cl} (h : c.kd = 4) : ctail c = escL c.s ++ [0, 1] := by unfold ctail; rw [if_neg (by omega), if_neg (by omega), if_pos h]
theorem chead_eq {c : Cl} (h : c.kd ≠ 1) : chead c = (16 * (c.kd + 1)).toNat := by unfold chead; rw [if_neg h]
theorem cput_before {c d : Cl} (hc : Right c) (hd : Right d) (bc : Bd c) (bd : Bd d) (h : ccmp c d = -1) : Before (cput c) (cput d) := by
  have lc := chead_lt hc bc
  have ld := chead_lt hd bd
  have hh : chead c < chead d → Before (cput c) (cput d) := fun q => .inl (by rw [toNat_of _ lc, toNat_of _ ld]; exact q)
  have u0 := bc.u0
  have v0 := bd.u0
  unfold ccmp at h
  rcases icmp_cases c.kd d.kd with ⟨e, k, _⟩ | ⟨e, k, _⟩ | ⟨e, k, _⟩
  · refine hh ?_
    unfold chead
    rcases hc with ⟨h1, _⟩ | ⟨h1, _, h2, _⟩ | ⟨h1, _⟩ | ⟨h1, _⟩ | ⟨h1, _⟩ <;> rcases hd with ⟨g1, _⟩ | ⟨g1, _, g2, _⟩ | ⟨g1, _⟩ | ⟨g1, _⟩ | ⟨g1, _⟩ <;> rw [h1, g1] at k <;> rw [h1, g1] <;> simp <;> omega
  · rw [e, cmpOr_zero] at h
    have he : chead c = chead d → Before (ctail c) (ctail d) → Before (cput c) (cput d) := fun q p => .inr ⟨by rw [q], p⟩
    rcases hc with ⟨h1, h2, h3, h4⟩ | ⟨h1, h2, h3, h4⟩ | ⟨h1, h2, h3⟩ | ⟨h1, h2, h3⟩ | ⟨h1, h2, h3⟩ <;> rcases hd with ⟨g1, g2, g3, g4⟩ | ⟨g1, g2, g3, g4⟩ | ⟨g1, g2, g3⟩ | ⟨g1, g2, g3⟩ | ⟨g1, g2, g3⟩ <;> first | (exfalso; omega) | skip
    · rw [h2, h3, h4, g2, g3, g4] at h; exact absurd h (by decide)
    · refine hh ?_
      rw [h2, h4, g2, g4, show icmp 0 0 = 0 from rfl, cmpOr_zero] at h
      unfold chead
      rw [if_pos h1, if_pos g1]
      rcases icmp_cases c.u d.u with ⟨e, k, _⟩ | ⟨e, k, _⟩ | ⟨e, k, _⟩
      · omega
      · rw [e] at h; exact absurd h (by decide)
      · rw [e, cmpOr_one] at h; exact absurd h (by decide)
    · rw [h2, h3, g2, g3] at h
      refine he (by rw [chead_eq (by omega), chead_eq (by omega), k]) ?_
      rw [ctail_2 h1, ctail_2 g1]
      have := bc.i0; have := bd.i1; have := bd.i0; have := bc.i1
      rcases icmp_cases c.i d.i with ⟨e, k, _⟩ | ⟨e, k, _⟩ | ⟨e, k, _⟩
      · exact be_before 8 _ _ (by omega) (by simp; omega)
      · rw [e] at h; exact absurd h (by decide)
      · rw [e] at h; exact absurd h (by decide)
    · rw [h2, h3, g2, g3, show icmp 0 0 = 0 from rfl, cmpOr_zero] at h
      refine he (by rw [chead_eq (by omega), chead_eq (by omega), k]) ?_
      rw [ctail_3 h1, ctail_3 g1]
      have := bd.u1
      rcases icmp_cases c.u d.u with ⟨e, k, _⟩ | ⟨e, k, _⟩ | ⟨e, k, _⟩
      · exact wput_before (by omega) (by omega)
      · rw [e] at h; exact absurd h (by decide)
      · rw [e] at h; exact absurd h (by decide)
    · rw [h2, h3, g2, g3, show icmp 0 0 = 0 from rfl, cmpOr_zero, cmpOr_zero] at h
      refine he (by rw [chead_eq (by omega), chead_eq (by omega), k]) ?_
      rw [ctail_4 h1, ctail_4 g1]
      rcases scmp_cases c.s d.s with ⟨e, k, _⟩ | ⟨e, k, _⟩ | ⟨e, k, _⟩
      · exact esc_before _ _ k
      · rw [e] at h; exact absurd h (by decide)
      · rw [e] at h; exact absurd h (by decide)
  · rw [e, cmpOr_one] at h; exact absurd h (by decide)
end Go.Proofs.YthaicofleloplaaDoorCol
