/- What is proved here: facts about texts as lists of bytes: what two have in common ahead, their order, and what all of a list have in common. Conditions: as each theorem names them. -/
import Derived.Laws.Strings
set_option linter.unusedVariables false
set_option linter.unusedSimpArgs false
namespace Go.Proofs.YtafebmhmcdnhkaaGreatMath

/-- How many items two lists have in common ahead. -/
def cp : List UInt8 → List UInt8 → Nat
  | x :: a, y :: b => if x = y then cp a b + 1 else 0
  | _, _ => 0

theorem cp_nil_left (b : List UInt8) : cp [] b = 0 := by cases b <;> rfl
theorem cp_nil_right (a : List UInt8) : cp a [] = 0 := by cases a <;> rfl
theorem cp_cons (x y : UInt8) (a b : List UInt8) : cp (x :: a) (y :: b) = if x = y then cp a b + 1 else 0 := rfl
theorem cp_comm : ∀ a b : List UInt8, cp a b = cp b a
  | [], b => by rw [cp_nil_left, cp_nil_right]
  | a, [] => by rw [cp_nil_left, cp_nil_right]
  | x :: a, y :: b => by
    rw [cp_cons, cp_cons, cp_comm a b]
    by_cases h : x = y
    · rw [if_pos h, if_pos h.symm]
    · rw [if_neg h, if_neg (fun e => h e.symm)]
theorem cp_le_left : ∀ a b : List UInt8, cp a b ≤ a.length
  | [], b => by rw [cp_nil_left]; exact Nat.zero_le _
  | x :: a, [] => by rw [cp_nil_right]; exact Nat.zero_le _
  | x :: a, y :: b => by
    rw [cp_cons]
    have := cp_le_left a b
    split
    · simp; omega
    · exact Nat.zero_le _
theorem cp_le_right (a b : List UInt8) : cp a b ≤ b.length := by rw [cp_comm]; exact cp_le_left b a
theorem cp_self : ∀ a : List UInt8, cp a a = a.length
  | [] => rfl
  | x :: a => by rw [cp_cons, if_pos rfl, cp_self a]; rfl
theorem cp_ge_iff : ∀ (n : Nat) (a b : List UInt8), n ≤ cp a b ↔ n ≤ a.length ∧ n ≤ b.length ∧ a.take n = b.take n
  | 0, a, b => by simp
  | n + 1, [], b => by rw [cp_nil_left]; simp
  | n + 1, x :: a, [] => by rw [cp_nil_right]; simp
  | n + 1, x :: a, y :: b => by
    rw [cp_cons]
    by_cases h : x = y
    · rw [if_pos h]
      have := cp_ge_iff n a b
      simp only [List.length_cons, List.take_succ_cons, List.cons.injEq]
      constructor
      · intro hh
        obtain ⟨h1, h2, h3⟩ := this.1 (by omega)
        exact ⟨by omega, by omega, h, h3⟩
      · rintro ⟨h1, h2, _, h3⟩
        have := this.2 ⟨by omega, by omega, h3⟩
        omega
    · rw [if_neg h]
      constructor
      · intro hh; omega
      · rintro ⟨_, _, h3⟩
        simp only [List.take_succ_cons, List.cons.injEq] at h3
        exact absurd h3.1 h
theorem cp_take (a b : List UInt8) : a.take (cp a b) = b.take (cp a b) := ((cp_ge_iff _ a b).1 (Nat.le_refl _)).2.2
/-- At the first place that isn't the same, they part. -/
theorem cp_of_get : ∀ (n : Nat) (a b : List UInt8), n ≤ a.length → n ≤ b.length → (∀ j, j < n → a[j]? = b[j]?) → (n = a.length ∨ n = b.length ∨ a[n]? ≠ b[n]?) → cp a b = n := by
  intro n a b h1 h2 h3 h4
  have hge : n ≤ cp a b := (cp_ge_iff n a b).2 ⟨h1, h2, by
    apply List.ext_getElem?
    intro i
    rw [List.getElem?_take, List.getElem?_take]
    split
    · exact h3 i (by assumption)
    · rfl⟩
  have hl := cp_le_left a b
  have hr := cp_le_right a b
  rcases Nat.lt_or_ge n (cp a b) with hlt | hge2
  · rcases h4 with h4 | h4 | h4
    · omega
    · omega
    · exfalso
      apply h4
      have h5 := (cp_ge_iff (n + 1) a b).1 (by omega)
      have h6 := congrArg (fun l : List UInt8 => l[n]?) h5.2.2
      simpa [List.getElem?_take] using h6
  · omega
theorem cp_get_eq {a b : List UInt8} {j : Nat} (h : j < cp a b) : a[j]? = b[j]? := by
  have h5 := (cp_ge_iff (j + 1) a b).1 h
  have h6 := congrArg (fun l : List UInt8 => l[j]?) h5.2.2
  simpa [List.getElem?_take] using h6
theorem cp_get_ne {a b : List UInt8} (h1 : cp a b < a.length) (h2 : cp a b < b.length) : a[cp a b]? ≠ b[cp a b]? := by
  intro he
  have : cp a b + 1 ≤ cp a b := (cp_ge_iff (cp a b + 1) a b).2 ⟨h1, h2, by
    rw [List.take_add_one, List.take_add_one, he, cp_take]⟩
  omega

/-! ### order -/
abbrev lt (a b : List UInt8) : Bool := Op.bytesLess a b
theorem lt_nil (a : List UInt8) : lt a [] = false := by cases a <;> rfl
theorem nil_lt (y : UInt8) (b : List UInt8) : lt [] (y :: b) = true := rfl
theorem lt_cons (x y : UInt8) (a b : List UInt8) : lt (x :: a) (y :: b) = (decide (x < y) || (x == y && lt a b)) := rfl
theorem u8_lt_irrefl (x : UInt8) : ¬ x < x := by rw [UInt8.lt_iff_toNat_lt]; omega
theorem u8_lt_trans {x y z : UInt8} (h : x < y) (k : y < z) : x < z := by rw [UInt8.lt_iff_toNat_lt] at *; omega
theorem u8_lt_asymm {x y : UInt8} (h : x < y) : ¬ y < x := by rw [UInt8.lt_iff_toNat_lt] at *; omega
theorem u8_ne_of_lt {x y : UInt8} (h : x < y) : x ≠ y := by rintro rfl; exact u8_lt_irrefl _ h
theorem u8_total (x y : UInt8) : x < y ∨ x = y ∨ y < x := by
  rw [UInt8.lt_iff_toNat_lt, UInt8.lt_iff_toNat_lt, ← UInt8.toNat_inj]; omega
theorem lt_irrefl : ∀ a : List UInt8, lt a a = false
  | [] => rfl
  | x :: a => by rw [lt_cons, lt_irrefl a]; simp
theorem lt_asymm : ∀ {a b : List UInt8}, lt a b = true → lt b a = false
  | a, [], h => by rw [lt_nil] at h; cases h
  | [], y :: b, _ => rfl
  | x :: a, y :: b, h => by
    rw [lt_cons] at h ⊢
    simp only [Bool.or_eq_true, decide_eq_true_eq, Bool.and_eq_true, beq_iff_eq, Bool.or_eq_false_iff, decide_eq_false_iff_not, Bool.and_eq_false_imp] at h ⊢
    rcases h with h | ⟨rfl, h⟩
    · exact ⟨u8_lt_asymm h, fun e => absurd e.symm (u8_ne_of_lt h)⟩
    · exact ⟨u8_lt_irrefl _, fun _ => lt_asymm h⟩
theorem lt_trans : ∀ {a b c : List UInt8}, lt a b = true → lt b c = true → lt a c = true
  | a, b, [], _, k => by rw [lt_nil] at k; cases k
  | a, [], z :: c, h, _ => by rw [lt_nil] at h; cases h
  | [], y :: b, z :: c, _, _ => rfl
  | x :: a, y :: b, z :: c, h, k => by
    rw [lt_cons] at h k ⊢
    simp only [Bool.or_eq_true, decide_eq_true_eq, Bool.and_eq_true, beq_iff_eq] at h k ⊢
    rcases h with h | ⟨rfl, h⟩
    · rcases k with k | ⟨rfl, k⟩
      · exact .inl (u8_lt_trans h k)
      · exact .inl h
    · rcases k with k | ⟨rfl, k⟩
      · exact .inl k
      · exact .inr ⟨rfl, lt_trans h k⟩
theorem lt_total : ∀ (a b : List UInt8), lt a b = true ∨ a = b ∨ lt b a = true
  | [], [] => .inr (.inl rfl)
  | [], y :: b => .inl rfl
  | x :: a, [] => .inr (.inr rfl)
  | x :: a, y :: b => by
    rw [lt_cons, lt_cons]
    simp only [Bool.or_eq_true, decide_eq_true_eq, Bool.and_eq_true, beq_iff_eq, List.cons.injEq]
    rcases u8_total x y with h | rfl | h
    · exact .inl (.inl h)
    · rcases lt_total a b with h | rfl | h
      · exact .inl (.inr ⟨rfl, h⟩)
      · exact .inr (.inl ⟨rfl, rfl⟩)
      · exact .inr (.inr (.inr ⟨rfl, h⟩))
    · exact .inr (.inr (.inl h))
/-- 'not above' is transitive, too. -/
theorem le_trans {a b c : List UInt8} (h : lt b a = false) (k : lt c b = false) : lt c a = false := by
  rcases lt_total b a with h1 | rfl | h1
  · rw [h1] at h; cases h
  · exact k
  · rcases lt_total c b with k1 | rfl | k1
    · rw [k1] at k; cases k
    · exact h
    · exact lt_asymm (lt_trans h1 k1)
theorem lt_of_lt_of_le {a b c : List UInt8} (h : lt a b = true) (k : lt c b = false) : lt a c = true := by
  rcases lt_total c b with k1 | rfl | k1
  · rw [k1] at k; cases k
  · exact h
  · exact lt_trans h k1
theorem lt_of_le_of_lt {a b c : List UInt8} (h : lt b a = false) (k : lt b c = true) : lt a c = true := by
  rcases lt_total b a with k1 | rfl | k1
  · rw [k1] at h; cases h
  · exact k
  · exact lt_trans k1 k
/-- A beginning is not above the whole. -/
theorem not_lt_take : ∀ (n : Nat) (a : List UInt8), lt a (a.take n) = false
  | 0, a => by rw [List.take_zero]; exact lt_nil a
  | n + 1, [] => rfl
  | n + 1, x :: a => by rw [List.take_succ_cons, lt_cons, not_lt_take n a]; simp
theorem lt_append_left : ∀ (p a b : List UInt8), lt (p ++ a) (p ++ b) = lt a b
  | [], a, b => rfl
  | x :: p, a, b => by rw [List.cons_append, List.cons_append, lt_cons, lt_append_left p a b]; simp
/-- Of two that rise: they part ahead of the second one's end. -/
theorem cp_lt_of_lt : ∀ {a b : List UInt8}, lt a b = true → cp a b < b.length
  | a, [], h => by rw [lt_nil] at h; cases h
  | [], y :: b, _ => by rw [cp_nil_left]; simp
  | x :: a, y :: b, h => by
    rw [lt_cons] at h
    simp only [Bool.or_eq_true, decide_eq_true_eq, Bool.and_eq_true, beq_iff_eq] at h
    rw [cp_cons]
    rcases h with h | ⟨rfl, h⟩
    · rw [if_neg (u8_ne_of_lt h)]; simp
    · rw [if_pos rfl]
      have := cp_lt_of_lt h
      simp only [List.length_cons]
      omega
/-- The least text that parts two is above the first one. -/
theorem lt_take_succ : ∀ {a b : List UInt8}, lt a b = true → lt a (b.take (cp a b + 1)) = true
  | a, [], h => by rw [lt_nil] at h; cases h
  | [], y :: b, _ => by rw [cp_nil_left]; rfl
  | x :: a, y :: b, h => by
    rw [lt_cons] at h
    simp only [Bool.or_eq_true, decide_eq_true_eq, Bool.and_eq_true, beq_iff_eq] at h
    rw [cp_cons]
    rcases h with h | ⟨rfl, h⟩
    · rw [if_neg (u8_ne_of_lt h)]
      simp [lt_cons, h]
    · rw [if_pos rfl, List.take_succ_cons, lt_cons, lt_take_succ h]
      simp
/-- A shorter beginning of the second one doesn't part them. -/
theorem not_lt_take_le {a b : List UInt8} {n : Nat} (h : n ≤ cp a b) : lt a (b.take n) = false := by
  have := (cp_ge_iff n a b).1 h
  rw [← this.2.2]
  exact not_lt_take n a
/-- What stands between two has in common with the first one at least what these have. -/
theorem cp_between : ∀ {a s b : List UInt8}, lt s a = false → lt b s = false → cp a b ≤ cp a s
  | [], s, b, _, _ => by rw [cp_nil_left]; exact Nat.zero_le _
  | x :: a, s, [], _, _ => by rw [cp_nil_right]; exact Nat.zero_le _
  | x :: a, [], y :: b, h, _ => by rw [nil_lt] at h; cases h
  | x :: a, z :: s, y :: b, h, k => by
    rw [lt_cons] at h k
    simp only [Bool.or_eq_false_iff, decide_eq_false_iff_not, Bool.and_eq_false_imp, beq_iff_eq] at h k
    rw [cp_cons, cp_cons]
    by_cases e : x = y
    · subst e
      rw [if_pos rfl]
      have hz : x = z := by
        rcases u8_total x z with h1 | h1 | h1
        · exact absurd h1 k.1
        · exact h1
        · exact absurd h1 h.1
      subst hz
      rw [if_pos rfl]
      have := cp_between (h.2 rfl) (k.2 rfl)
      omega
    · rw [if_neg e]; exact Nat.zero_le _
theorem le_of_lt {a b : List UInt8} (h : lt a b = true) : lt b a = false := lt_asymm h
/-- .. and with the second one. -/
theorem cp_between' {a s b : List UInt8} (h : lt s a = false) (k : lt b s = false) : cp a b ≤ cp s b := by
  have h1 := cp_between h k
  have h2 := (cp_ge_iff (cp a b) a s).1 h1
  have h3 := (cp_ge_iff (cp a b) a b).1 (Nat.le_refl _)
  exact (cp_ge_iff _ _ _).2 ⟨h2.2.1, h3.2.1, by rw [← h2.2.2, h3.2.2]⟩
/-- Of three that rise. -/
theorem cp_three {a b c : List UInt8} (h : lt a b = true) (k : lt b c = true) : cp a c = min (cp a b) (cp b c) := by
  have h1 := cp_between (le_of_lt h) (le_of_lt k)
  have h2 := cp_between' (le_of_lt h) (le_of_lt k)
  have h3 : min (cp a b) (cp b c) ≤ cp a c := by
    have e1 := (cp_ge_iff (min (cp a b) (cp b c)) a b).1 (Nat.min_le_left _ _)
    have e2 := (cp_ge_iff (min (cp a b) (cp b c)) b c).1 (Nat.min_le_right _ _)
    exact (cp_ge_iff _ _ _).2 ⟨e1.1, e2.2.1, e1.2.2.trans e2.2.2⟩
  omega

/-! ### what all of a list have in common -/
def spanFrom (a : List UInt8) : List (List UInt8) → Nat
  | [] => a.length
  | s :: r => min (cp a s) (spanFrom a r)
def span : List (List UInt8) → Nat
  | [] => 0
  | a :: r => spanFrom a r
theorem spanFrom_le (a : List UInt8) : ∀ r, spanFrom a r ≤ a.length
  | [] => Nat.le_refl _
  | s :: r => by have := spanFrom_le a r; unfold spanFrom; omega
theorem spanFrom_ge_iff (a : List UInt8) (n : Nat) : ∀ r, n ≤ spanFrom a r ↔ n ≤ a.length ∧ ∀ s ∈ r, n ≤ cp a s
  | [] => by simp [spanFrom]
  | s :: r => by
    unfold spanFrom
    rw [Nat.le_min, spanFrom_ge_iff a n r]
    simp only [List.mem_cons, forall_eq_or_imp]
    constructor
    · rintro ⟨h1, h2, h3⟩; exact ⟨h2, h1, h3⟩
    · rintro ⟨h2, h1, h3⟩; exact ⟨h1, h2, h3⟩
theorem spanFrom_foldl (a : List UInt8) : ∀ (r : List (List UInt8)) (n : Nat), r.foldl (fun n s => min n (cp a s)) n = min n (spanFrom a r) ∨ a.length < n
  | [], n => by
    rcases Nat.lt_or_ge a.length n with h | h
    · exact .inr h
    · exact .inl (by simp [spanFrom]; omega)
  | s :: r, n => by
    rcases Nat.lt_or_ge a.length n with h | h
    · exact .inr h
    · rcases spanFrom_foldl a r (min n (cp a s)) with h1 | h1
      · left
        rw [List.foldl_cons, h1]
        simp only [spanFrom]
        omega
      · omega
theorem spanFrom_snoc (a m : List UInt8) : ∀ r, spanFrom a (r ++ [m]) = min (spanFrom a r) (cp a m)
  | [] => by
    have := cp_le_left a m
    simp only [List.nil_append, spanFrom]
    omega
  | s :: r => by
    rw [List.cons_append]
    simp only [spanFrom]
    rw [spanFrom_snoc a m r]
    omega
/-- All have so many bytes, the same ones. -/
theorem span_all {l : List (List UInt8)} {n : Nat} (h : n ≤ span l) {a : List UInt8} (ha : l.head? = some a) : ∀ s ∈ l, n ≤ s.length ∧ s.take n = a.take n := by
  cases l with
  | nil => simp at ha
  | cons b r =>
    have : b = a := by simpa using ha
    subst this
    obtain ⟨h1, h2⟩ := (spanFrom_ge_iff b n r).1 h
    intro s hs
    rcases List.mem_cons.1 hs with rfl | hs
    · exact ⟨h1, rfl⟩
    · have := (cp_ge_iff n b s).1 (h2 s hs)
      exact ⟨this.2.1, this.2.2.symm⟩
/-- Any number that fits exactly is it. -/
theorem span_eq {a : List UInt8} {r : List (List UInt8)} {n : Nat} (h1 : n ≤ a.length) (h2 : ∀ s ∈ r, n ≤ cp a s) (h3 : n = a.length ∨ ∃ s ∈ r, cp a s ≤ n) : spanFrom a r = n := by
  have hge := (spanFrom_ge_iff a n r).2 ⟨h1, h2⟩
  have hle := spanFrom_le a r
  rcases h3 with h3 | ⟨s, hs, h3⟩
  · omega
  · have := ((spanFrom_ge_iff a (spanFrom a r) r).1 (Nat.le_refl _)).2 s hs
    omega
/-- Without what all have in common, they have nothing in common. -/
theorem cp_append_left : ∀ (p a b : List UInt8), cp (p ++ a) (p ++ b) = p.length + cp a b
  | [], a, b => by simp
  | x :: p, a, b => by rw [List.cons_append, List.cons_append, cp_cons, if_pos rfl, cp_append_left p a b, List.length_cons]; omega
theorem spanFrom_append (p a : List UInt8) : ∀ r : List (List UInt8), spanFrom (p ++ a) (r.map (p ++ ·)) = p.length + spanFrom a r
  | [] => by simp [spanFrom]
  | s :: r => by
    rw [List.map_cons]
    simp only [spanFrom]
    rw [spanFrom_append p a r, cp_append_left]
    omega
theorem span_strip (l : List (List UInt8)) : span (l.map (·.drop (span l))) = 0 := by
  cases l with
  | nil => rfl
  | cons a r =>
    have hall := span_all (l := a :: r) (Nat.le_refl _) (a := a) rfl
    have hback : ∀ s ∈ r, a.take (span (a :: r)) ++ s.drop (span (a :: r)) = s := fun s hs => by
      rw [← (hall s (List.mem_cons_of_mem _ hs)).2, List.take_append_drop]
    have h := spanFrom_append (a.take (span (a :: r))) (a.drop (span (a :: r))) (r.map (·.drop (span (a :: r))))
    have e : List.map (fun x => a.take (span (a :: r)) ++ x) (r.map (·.drop (span (a :: r)))) = r := by
      rw [List.map_map]
      conv => rhs; rw [← List.map_id r]
      exact List.map_congr_left (fun s hs => hback s hs)
    rw [List.take_append_drop, e, List.length_take] at h
    have h0 : span (a :: r) = spanFrom a r := rfl
    have := spanFrom_le a r
    rw [List.map_cons]
    show spanFrom _ _ = 0
    rw [h0] at h ⊢
    omega
/-- Of texts that rise: what the first one and the last one have. -/
theorem spanFrom_rise {a : List UInt8} : ∀ (r : List (List UInt8)) (m : List UInt8), (∀ (i : Nat) (x y : List UInt8), (a :: r)[i]? = some x → (a :: r)[i + 1]? = some y → lt y x = false) → (a :: r).getLast? = some m → spanFrom a r = cp a m := by
  intro r m hr hm
  have hmono : ∀ (d i : Nat) (x y : List UInt8), (a :: r)[i]? = some x → (a :: r)[i + d]? = some y → lt y x = false := by
    intro d
    induction d with
    | zero => intro i x y hx hy; rw [Nat.add_zero, hx] at hy; injection hy with hy; subst hy; exact lt_irrefl _
    | succ d ih =>
      intro i x y hx hy
      have hlt : i + d + 1 < (a :: r).length := (List.getElem?_eq_some_iff.1 hy).1
      obtain ⟨z, hz⟩ : ∃ z, (a :: r)[i + d]? = some z := ⟨_, List.getElem?_eq_getElem (by omega)⟩
      exact le_trans (ih i x z hx hz) (hr (i + d) z y hz hy)
  have hlen : 0 < (a :: r).length := by simp
  have hm' : (a :: r)[r.length]? = some m := by
    rw [List.getLast?_eq_getElem?] at hm
    simpa using hm
  have hle : ∀ s ∈ r, cp a m ≤ cp a s := by
    intro s hs
    obtain ⟨i, hi⟩ := List.getElem?_of_mem hs
    have hi' : (a :: r)[i + 1]? = some s := by simpa using hi
    have hil : i < r.length := (List.getElem?_eq_some_iff.1 hi).1
    exact cp_between (hmono (i + 1) 0 a s rfl (by rw [Nat.zero_add]; exact hi')) (hmono (r.length - (i + 1)) (i + 1) s m hi' (by rw [show i + 1 + (r.length - (i + 1)) = r.length by omega]; exact hm'))
  refine span_eq (cp_le_left a m) hle ?_
  cases r with
  | nil =>
    left
    have : a = m := by simpa using hm'
    subst this
    exact cp_self a
  | cons b r =>
    right
    refine ⟨m, ?_, Nat.le_refl _⟩
    have : (b :: r)[r.length]? = some m := by simpa using hm'
    exact List.mem_of_getElem? this
end Go.Proofs.YtafebmhmcdnhkaaGreatMath
