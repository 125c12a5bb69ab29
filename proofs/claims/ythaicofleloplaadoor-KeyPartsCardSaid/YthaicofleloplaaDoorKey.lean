/- What is proved here: plain facts on keys: their bytes, the key of bytes, their order. Conditions: xs each theorem names them. -/
import Derived.Test.YthaicofleloplaaDoorColumn
set_option linter.unusedVariables false
set_option linter.unusedSimpArgs false
namespace Go.Proofs.YthaicofleloplaaDoorCol
open Go.RowKit Go.Proofs.YthaicofleloplaaDoorEv Go.Proofs.YthaicofleloplaaDoorR

instance : DecidableEq Cl := fun a b => decidable_of_iff (a.kd = b.kd ∧ a.i = b.i ∧ a.u = b.u ∧ a.s = b.s) ⟨fun h => Cl.ext' h.1 h.2.1 h.2.2.1 h.2.2.2, fun h => by subst h; exact ⟨rfl, rfl, rfl, rfl⟩⟩
def body (cs : List Cl) : List UInt8 := cs.flatMap cput
def kput (cs : List Cl) : List UInt8 := body cs ++ [1]
theorem body_nil : body [] = [] := rfl
theorem body_cons (c : Cl) (cs : List Cl) : body (c :: cs) = cput c ++ body cs := by simp [body]
theorem body_append (a b : List Cl) : body (a ++ b) = body a ++ body b := by simp [body]
theorem kput_cons (c : Cl) (cs : List Cl) : kput (c :: cs) = cput c ++ kput cs := by unfold kput; rw [body_cons, List.append_assoc]
theorem kput_append (a b : List Cl) : kput (a ++ b) = body a ++ kput b := by unfold kput; rw [body_append, List.append_assoc]
def RB (cs : List Cl) : Prop := ∀ c ∈ cs, Right c ∧ Bd c
theorem RB.nil : RB [] := fun c h => by cases h
theorem RB.cons {c : Cl} {cs : List Cl} (h : Right c ∧ Bd c) (hs : RB cs) : RB (c :: cs) := fun x hx => by
  rcases List.mem_cons.mp hx with rfl | hx
  · exact h
  · exact hs x hx
theorem RB.head {c : Cl} {cs : List Cl} (h : RB (c :: cs)) : Right c ∧ Bd c := h c (List.mem_cons_self ..)
theorem RB.tail {c : Cl} {cs : List Cl} (h : RB (c :: cs)) : RB cs := fun x hx => h x (List.mem_cons_of_mem _ hx)
theorem RB.take {cs : List Cl} (h : RB cs) (n : Nat) : RB (cs.take n) := fun x hx => h x (List.mem_of_mem_take hx)
theorem RB.append {a b : List Cl} (ha : RB a) (hb : RB b) : RB (a ++ b) := fun x hx => by
  rcases List.mem_append.mp hx with hx | hx
  · exact ha x hx
  · exact hb x hx
theorem chead_ge {c : Cl} (h : Right c) (b : Bd c) : 16 ≤ chead c := by
  have := b.u0
  unfold chead
  rcases h with ⟨h, _⟩ | ⟨h, _, h2, _⟩ | ⟨h, _⟩ | ⟨h, _⟩ | ⟨h, _⟩ <;> rw [h] <;> simp <;> omega
theorem chead_ne {c : Cl} (h : Right c) (b : Bd c) : UInt8.ofNat (chead c) ≠ 1 := fun e => by
  have h1 := chead_ge h b
  have h2 := toNat_of _ (chead_lt h b)
  rw [e] at h2
  have : (1 : UInt8).toNat = 1 := rfl
  omega
theorem one_before {c : Cl} (h : Right c) (b : Bd c) : Before [1] (cput c) := .inl (by
  rw [toNat_of _ (chead_lt h b)]
  have := chead_ge h b
  show 1 < _
  omega)

/-! ### the key of bytes -/
def kparse : Nat → List UInt8 → List Cl × Int
  | 0, _ => ([], 7)
  | n + 1, l => if l = [1] then ([], 0) else if l.head? = some 1 then ([], 3) else if (cparse l).2.2 = 0 then (if (kparse n (l.drop (cparse l).2.1)).2 = 0 then ((cparse l).1 :: (kparse n (l.drop (cparse l).2.1)).1, 0) else ([], (kparse n (l.drop (cparse l).2.1)).2)) else ([], (cparse l).2.2)
theorem kparse_same : ∀ (n m : Nat) (l : List UInt8), l.length < n → l.length < m → kparse n l = kparse m l
  | 0, _, _, h, _ => absurd h (Nat.not_lt_zero _)
  | _, 0, _, _, h => absurd h (Nat.not_lt_zero _)
  | n + 1, m + 1, l, hn, hm => by
    unfold kparse
    by_cases e : (cparse l).2.2 = 0
    · rcases cparse_once l with ⟨c, j, ec, _, _, h0, h1, _⟩ | ec | ec
      · have ej : (cparse l).2.1 = j := by rw [ec]
        rw [kparse_same n m (l.drop (cparse l).2.1) (by rw [ej, List.length_drop]; omega) (by rw [ej, List.length_drop]; omega)]
      · rw [ec] at e; exact absurd e (by decide)
      · rw [ec] at e; exact absurd e (by decide)
    · rw [if_neg e, if_neg e]
def kp (l : List UInt8) : List Cl × Int := kparse (l.length + 1) l
theorem kp_end : kp [1] = ([], 0) := rfl
theorem kp_more {l : List UInt8} (h : l ≠ [1]) (h1 : l.head? = some 1) : kp l = ([], 3) := by
  unfold kp kparse
  rw [if_neg h, if_pos h1]
theorem kp_bad {l : List UInt8} (h1 : l.head? ≠ some 1) (he : (cparse l).2.2 ≠ 0) : kp l = ([], (cparse l).2.2) := by
  unfold kp kparse
  rw [if_neg (fun e => h1 (by rw [e]; rfl)), if_neg h1, if_neg he]
theorem kp_step {l : List UInt8} (h1 : l.head? ≠ some 1) {c : Cl} {m : Nat} (he : cparse l = (c, m, 0)) : kp l = if (kp (l.drop m)).2 = 0 then (c :: (kp (l.drop m)).1, 0) else ([], (kp (l.drop m)).2) := by
  have hk : kparse l.length (l.drop m) = kp (l.drop m) := by
    rcases cparse_once l with ⟨c', j, ec, _, _, h0, h2, _⟩ | ec | ec
    · rw [he] at ec
      obtain rfl : m = j := by injection ec with _ e; injection e
      exact kparse_same _ _ _ (by rw [List.length_drop]; omega) (Nat.lt_succ_self _)
    · rw [he] at ec; injection ec with _ e; injection e with _ e; exact absurd e (by decide)
    · rw [he] at ec; injection ec with _ e; injection e with _ e; exact absurd e (by decide)
  show kparse (l.length + 1) l = _
  unfold kparse
  rw [if_neg (fun e => h1 (by rw [e]; rfl)), if_neg h1, he, if_pos rfl]
  show (if (kparse l.length (l.drop m)).2 = 0 then _ else _) = _
  rw [hk]
theorem head_put {c : Cl} (h : Right c) (b : Bd c) (x : List UInt8) : (cput c ++ x).head? ≠ some 1 := fun e => chead_ne h b (Option.some.inj e)
theorem kp_cons {c : Cl} (h : Right c) (b : Bd c) (x : List UInt8) : kp (cput c ++ x) = if (kp x).2 = 0 then (c :: (kp x).1, 0) else ([], (kp x).2) := by
  rw [kp_step (head_put h b x) (cparse_back h b x), List.drop_left]
theorem kp_back : ∀ {cs : List Cl} (_ : RB cs), kp (kput cs) = (cs, 0)
  | [], _ => rfl
  | c :: cs, h => by rw [kput_cons, kp_cons h.head.1 h.head.2, kp_back h.tail, if_pos rfl]
theorem kp_over : ∀ {cs : List Cl} (_ : RB cs) {x : List UInt8} (_ : x ≠ []), kp (kput cs ++ x) = ([], 3)
  | [], _, x, hx => kp_more (fun e => hx (by injection e)) rfl
  | c :: cs, h, x, hx => by rw [kput_cons, List.append_assoc, kp_cons h.head.1 h.head.2, kp_over h.tail hx, if_neg (by decide)]
theorem kp_short : ∀ {cs : List Cl} (_ : RB cs) {j : Nat} (_ : j < (kput cs).length), kp ((kput cs).take j) = ([], 7)
  | [], _, j, hj => by
    obtain rfl : j = 0 := by have : j < 1 := hj; omega
    rfl
  | c :: cs, h, j, hj => by
    rw [kput_cons] at hj ⊢
    rw [List.length_append] at hj
    by_cases q : j < (cput c).length
    · rw [List.take_append_of_le_length (by omega)]
      have hs := cparse_short h.head.1 h.head.2 q
      rw [kp_bad ?_ (by rw [hs]; decide), hs]
      cases j with
      | zero => intro e; cases e
      | succ j => exact fun e => chead_ne h.head.1 h.head.2 (Option.some.inj e)
    · rw [List.take_append, List.take_of_length_le (by omega), kp_cons h.head.1 h.head.2, kp_short h.tail (by omega), if_neg (by decide)]
theorem kp_once : ∀ (n : Nat) (l : List UInt8), l.length ≤ n → (∃ cs, kp l = (cs, 0) ∧ RB cs ∧ l = kput cs) ∨ kp l = ([], 7) ∨ kp l = ([], 3)
  | n, l, hn => by
    by_cases h0 : l = [1]
    · exact .inl ⟨[], by rw [h0]; rfl, RB.nil, h0⟩
    by_cases h1 : l.head? = some 1
    · exact .inr (.inr (kp_more h0 h1))
    rcases cparse_once l with ⟨c, m, ec, hr, hb, p0, p1, p2⟩ | ec | ec
    · rw [kp_step h1 ec]
      cases n with
      | zero => omega
      | succ n =>
        rcases kp_once n (l.drop m) (by rw [List.length_drop]; omega) with ⟨cs, e, hcs, el⟩ | e | e
        · refine .inl ⟨c :: cs, by rw [e, if_pos rfl], RB.cons ⟨hr, hb⟩ hcs, ?_⟩
          rw [kput_cons, ← p2, ← el, List.take_append_drop]
        · rw [e]; exact .inr (.inl rfl)
        · rw [e]; exact .inr (.inr rfl)
    · rw [kp_bad h1 (by rw [ec]; decide), ec]; exact .inr (.inl rfl)
    · rw [kp_bad h1 (by rw [ec]; decide), ec]; exact .inr (.inr rfl)
theorem kp_res (l : List UInt8) : (∃ cs, kp l = (cs, 0) ∧ RB cs ∧ l = kput cs) ∨ kp l = ([], 7) ∨ kp l = ([], 3) := kp_once _ l (Nat.le_refl _)

/-! ### places -/
def places : Nat → List Cl → List Int
  | _, [] => []
  | p, c :: cs => ((p + (cput c).length : Nat) : Int) :: places (p + (cput c).length) cs
theorem places_length : ∀ (p : Nat) (cs : List Cl), (places p cs).length = cs.length
  | _, [] => rfl
  | p, c :: cs => congrArg (· + 1) (places_length _ cs)
theorem places_get : ∀ (cs : List Cl) (p k : Nat), k ≤ cs.length → ((p : Int) :: places p cs)[k]? = some ((p + (body (cs.take k)).length : Nat) : Int)
  | cs, p, 0, _ => by simp [body]
  | [], p, k + 1, h => absurd h (Nat.not_succ_le_zero _)
  | c :: cs, p, k + 1, h => by
    have := places_get cs (p + (cput c).length) k (by simpa using h)
    rw [List.getElem?_cons_succ]
    show (((p + (cput c).length : Nat) : Int) :: places (p + (cput c).length) cs)[k]? = _
    rw [this, List.take_succ_cons, body_cons, List.length_append, Nat.add_assoc]

/-! ### the order -/
def kcmp : List Cl → List Cl → Int
  | [], [] => 0
  | [], _ :: _ => -1
  | _ :: _, [] => 1
  | a :: xs, b :: ys => cmpOr (ccmp a b) (kcmp xs ys)
theorem kcmp_cases : ∀ (xs ys : List Cl), (kcmp xs ys = -1 ∧ kcmp ys xs = 1) ∨ (kcmp xs ys = 0 ∧ kcmp ys xs = 0 ∧ xs = ys) ∨ (kcmp xs ys = 1 ∧ kcmp ys xs = -1)
  | [], [] => .inr (.inl ⟨rfl, rfl, rfl⟩)
  | [], _ :: _ => .inl ⟨rfl, rfl⟩
  | _ :: _, [] => .inr (.inr ⟨rfl, rfl⟩)
  | a :: xs, b :: ys => by
    unfold kcmp
    rcases ccmp_cases a b with ⟨e, e'⟩ | ⟨e, e', q⟩ | ⟨e, e'⟩
    · rw [e, e']; exact .inl ⟨rfl, rfl⟩
    · rw [e, e', cmpOr_zero, cmpOr_zero]
      rcases kcmp_cases xs ys with ⟨k, k'⟩ | ⟨k, k', q'⟩ | ⟨k, k'⟩
      · exact .inl ⟨k, k'⟩
      · exact .inr (.inl ⟨k, k', by rw [q, q']⟩)
      · exact .inr (.inr ⟨k, k'⟩)
    · rw [e, e']; exact .inr (.inr ⟨rfl, rfl⟩)
theorem kcmp_self (xs : List Cl) : kcmp xs xs = 0 := by rcases kcmp_cases xs xs with ⟨h, k⟩ | ⟨h, _⟩ | ⟨h, k⟩ <;> omega
theorem kput_before : ∀ {xs ys : List Cl} (_ : RB xs) (_ : RB ys) (_ : kcmp xs ys = -1), Before (kput xs) (kput ys)
  | [], [], _, _, h => absurd h (by decide)
  | [], b :: ys, _, hb, _ => by
    rw [kput_cons]
    have := (one_before hb.head.1 hb.head.2).append [] (kput ys)
    exact this
  | _ :: _, [], _, _, h => absurd (show (1 : Int) = -1 from h) (by decide)
  | a :: xs, b :: ys, ha, hb, h => by
    rw [kput_cons, kput_cons]
    unfold kcmp at h
    rcases ccmp_cases a b with ⟨e, e'⟩ | ⟨e, e', q⟩ | ⟨e, e'⟩
    · exact (cput_before ha.head.1 hb.head.1 ha.head.2 hb.head.2 e).append _ _
    · rw [e, cmpOr_zero] at h
      rw [q]
      exact (kput_before ha.tail hb.tail h).prepend _
    · rw [e, cmpOr_one] at h; exact absurd h (by decide)
/-- What the law asks of a comparison and two lists of bytes. -/
structure Ord (c : Int) (l m : List UInt8) : Prop where
  less : (decide (c < 0) == Op.bytesLess l m) = true
  same : ((c == 0) == (l == m)) = true
  pre : (m.take l.length = l) ∨ (l.take m.length = m) → c = 0
  eq : c = 0 → l = m
  behind : ∀ x y, c ≠ 0 → (decide (c < 0) == Op.bytesLess (l ++ x) (m ++ y)) = true
theorem ord_of {a b : List Cl} (ra : RB a) (rb : RB b) : Ord (kcmp a b) (kput a) (kput b) := by
  rcases kcmp_cases a b with ⟨h, _⟩ | ⟨h, _, e⟩ | ⟨h, k⟩
  · have hb := kput_before ra rb h
    rw [h]
    exact ⟨by rw [hb.less]; rfl, by rw [beq_eq_false_iff_ne.mpr hb.ne]; rfl, fun q => by rcases q with q | q; exact absurd q hb.not_prefix.1; exact absurd q hb.not_prefix.2, fun q => by omega, fun x y _ => by rw [(hb.append x y).less]; rfl⟩
  · subst e
    rw [h]
    exact ⟨by rw [show Op.bytesLess (kput a) (kput a) = false from Go.Proofs.YthaicofleloplaaDoorMath.lt_irrefl _]; rfl, by simp, fun _ => rfl, fun _ => rfl, fun _ _ q => absurd rfl q⟩
  · have hb := kput_before rb ra k
    rw [h]
    exact ⟨by rw [hb.not_less]; rfl, by rw [beq_eq_false_iff_ne.mpr hb.ne.symm]; rfl, fun q => by rcases q with q | q; exact absurd q hb.not_prefix.2; exact absurd q hb.not_prefix.1, fun q => by omega, fun x y _ => by rw [(hb.append y x).not_less]; rfl⟩
/-- The comparison of the first ones, then of the lengths. -/
theorem kcmp_cut : ∀ (xs ys : List Cl), cmpOr (kcmp (xs.take (min xs.length ys.length)) (ys.take (min xs.length ys.length))) (icmp xs.length ys.length) = kcmp xs ys
  | [], [] => rfl
  | [], b :: ys => by
    show icmp (0 : Nat) ((ys.length + 1 : Nat) : Int) = -1
    unfold icmp
    rw [if_pos (by omega)]
  | a :: xs, [] => by
    show icmp ((xs.length + 1 : Nat) : Int) (0 : Nat) = 1
    unfold icmp
    rw [if_neg (by omega), if_pos (by omega)]
  | a :: xs, b :: ys => by
    have ih := kcmp_cut xs ys
    have em : min (a :: xs).length (b :: ys).length = min xs.length ys.length + 1 := by simp only [List.length_cons]; omega
    have ei : icmp ((a :: xs).length : Nat) ((b :: ys).length : Nat) = icmp (xs.length : Nat) (ys.length : Nat) := by
      have l1 : (a :: xs).length = xs.length + 1 := rfl
      have l2 : (b :: ys).length = ys.length + 1 := rfl
      unfold icmp
      rw [l1, l2]
      repeat' split
      all_goals omega
    rw [em, ei, List.take_succ_cons, List.take_succ_cons]
    unfold kcmp
    rw [← ih]
    unfold cmpOr
    by_cases h : ccmp a b = 0
    · simp [h]
    · simp [h]
/-- A key's first columns' bytes begin just the keys that begin with them. -/
theorem body_pre : ∀ {xs ys : List Cl} (_ : RB xs) (_ : RB ys), (kput ys).take (body xs).length = body xs ↔ ys.take xs.length = xs
  | [], ys, _, _ => by simp [body]
  | a :: xs, [], ha, _ => by
    constructor
    · intro h
      have hb := ((one_before ha.head.1 ha.head.2).append [] (body xs)).not_prefix.2
      rw [body_cons] at h
      have h2 : (kput []).take (cput a ++ body xs).length = kput [] := List.take_of_length_le (by
        show 1 ≤ _
        rw [List.length_append]
        have : (cput a).length = (ctail a).length + 1 := rfl
        omega)
      rw [h2] at h
      have := chead_ne ha.head.1 ha.head.2
      exact absurd (by injection h with h _; exact h.symm) this
    · intro h; cases h
  | a :: xs, b :: ys, ha, hb => by
    have ih := body_pre ha.tail hb.tail
    rw [body_cons, kput_cons, List.length_cons, List.take_succ_cons, List.cons.injEq]
    rcases ccmp_cases a b with ⟨e, _⟩ | ⟨_, _, q⟩ | ⟨_, e⟩
    · have hn := ((cput_before ha.head.1 hb.head.1 ha.head.2 hb.head.2 e).append (body xs) (kput ys)).not_prefix.1
      refine ⟨fun h => absurd h hn, fun h => ?_⟩
      rw [h.1] at e
      rcases ccmp_cases a a with ⟨k, k'⟩ | ⟨k, _⟩ | ⟨k, k'⟩ <;> omega
    · subst q
      rw [← ih, List.length_append, List.take_append, List.take_of_length_le (by omega), Nat.add_sub_cancel_left]
      exact ⟨fun h => ⟨rfl, List.append_cancel_left h⟩, fun h => by rw [h.2]⟩
    · have hn := ((cput_before hb.head.1 ha.head.1 hb.head.2 ha.head.2 e).append (kput ys) (body xs)).not_prefix.2
      refine ⟨fun h => absurd h hn, fun h => ?_⟩
      rw [h.1] at e
      rcases ccmp_cases a a with ⟨k, k'⟩ | ⟨k, _⟩ | ⟨k, k'⟩ <;> omega
/-- Behind a key that another one does not begin with, nothing changes. -/
theorem kcmp_more : ∀ (xs ys x : List Cl), ys.take xs.length ≠ xs → kcmp (xs ++ x) ys = kcmp xs ys
  | [], ys, x, h => absurd (by simp) h
  | a :: xs, [], x, _ => rfl
  | a :: xs, b :: ys, x, h => by
    show cmpOr (ccmp a b) (kcmp (xs ++ x) ys) = cmpOr (ccmp a b) (kcmp xs ys)
    rcases ccmp_cases a b with ⟨e, _⟩ | ⟨e, _, q⟩ | ⟨e, _⟩
    · rw [e]; rfl
    · rw [e, cmpOr_zero, cmpOr_zero]
      exact kcmp_more xs ys x (fun k => h (by rw [List.length_cons, List.take_succ_cons, k, q]))
    · rw [e]; rfl
theorem kcmp_pre : ∀ (xs : List Cl) (c : Cl) (x : List Cl), kcmp xs (xs ++ c :: x) = -1
  | [], _, _ => rfl
  | a :: xs, c, x => by
    show cmpOr (ccmp a a) (kcmp xs (xs ++ c :: x)) = -1
    rcases ccmp_cases a a with ⟨k, k'⟩ | ⟨k, _⟩ | ⟨k, k'⟩
    · omega
    · rw [k, cmpOr_zero]; exact kcmp_pre xs c x
    · omega
theorem kput_len : ∀ {cs : List Cl} (_ : ∀ c ∈ cs, (cput c).length ≤ 200), (body cs).length ≤ 200 * cs.length
  | [], _ => by simp [body]
  | c :: cs, h => by
    have := kput_len (cs := cs) fun x hx => h x (List.mem_cons_of_mem _ hx)
    have := h c (List.mem_cons_self ..)
    rw [body_cons, List.length_append, List.length_cons]
    omega
end Go.Proofs.YthaicofleloplaaDoorCol
