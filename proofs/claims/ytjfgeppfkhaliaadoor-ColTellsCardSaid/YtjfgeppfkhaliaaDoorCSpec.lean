/- What is proved here: what the printed functions of col, of word and of what they call answer, in plain words. Conditions: sizes within the form's reach. -/
import Derived.Test.YtjfgeppfkhaliaaDoorPF
import Derived.Test.YtjfgeppfkhaliaaDoorColumn
import Derived.Laws.BitsAllLaws
set_option linter.unusedVariables false
set_option linter.unusedSimpArgs false
namespace Go.Proofs.YtjfgeppfkhaliaaDoor.Spec
open Go.RowKit Go.Proofs.YtjfgeppfkhaliaaDoorW.PrintWords Go.Proofs.YtjfgeppfkhaliaaDoorW.PrintLast Go.Proofs.YtjfgeppfkhaliaaDoorW.PrintMore Go.Proofs.YtjfgeppfkhaliaaDoorEv Go.Proofs.YtjfgeppfkhaliaaDoorCol Go.Proofs.YtjfgeppfkhaliaaDoorR Go.Proofs.YtjfgeppfkhaliaaDoor.P

def B (l : List UInt8) : ByteArray := ⟨l.toArray⟩
theorem B_L (l : List UInt8) : L (B l) = l := by simp [B]
theorem B_size (l : List UInt8) : (B l).size = l.length := by rw [← L_length, B_L]
theorem B_self (s : ByteArray) : B (L s) = s := L_inj (B_L _)
/-- bytes as numbers -/
def ns (l : List UInt8) : List Int := l.map fun b => (b.toNat : Int)
theorem ns_append (a b : List UInt8) : ns (a ++ b) = ns a ++ ns b := List.map_append
theorem ns_length (l : List UInt8) : (ns l).length = l.length := List.length_map ..
theorem str_ns (l : List UInt8) : strOfNums (ns l) = B l := L_inj (by
  rw [B_L]
  show (strOfNums _).data.toList = _
  rw [strOfNums_data]
  unfold ns
  rw [List.map_map]
  conv => rhs; rw [← List.map_id l]
  refine List.map_congr_left fun b _ => ?_
  simp)
theorem ns_of (n : Nat) : ((n : Int) % 256) = ((UInt8.ofNat n).toNat : Int) := by simp
theorem str_one (n : Nat) : strOfNums [(n : Int) % 256] = B [UInt8.ofNat n] := by rw [ns_of]; exact str_ns [UInt8.ofNat n]
theorem ofMod (n : Nat) : UInt8.ofNat (n % 256) = UInt8.ofNat n := of_mod n

/-! ### which may be -/
def onlyV (a0 a1 a2 : Int) (s : ByteArray) : Int × Int × Int × ByteArray := if a0 = 1 ∨ a0 = 3 then (a0, 0, a2, ⟨#[]⟩) else if a0 = 2 then (2, a1, 0, ⟨#[]⟩) else if a0 = 4 then (4, 0, 0, s) else (a0, 0, 0, ⟨#[]⟩)
theorem only_ev (a0 a1 a2 : Int) (s : ByteArray) : Ev (fun k => col_only.f k a0 a1 a2 s) (onlyV a0 a1 a2 s) := by
  unfold col_only.f
  by_cases h1 : a0 = 1
  · have e : onlyV a0 a1 a2 s = (a0, 0, a2, ⟨#[]⟩) := by unfold onlyV; rw [if_pos (.inl h1)]
    rw [e]
    refine ev_pos h1 (ev_step ?_)
    simp only [col_only.j0]
    exact ev_pos (by simp [h1]) ev_some
  · refine ev_neg h1 (ev_step ?_)
    simp only [col_only.j0]
    by_cases h3 : a0 = 3
    · have e : onlyV a0 a1 a2 s = (a0, 0, a2, ⟨#[]⟩) := by unfold onlyV; rw [if_pos (.inr h3)]
      rw [e]
      exact ev_pos (by simp [h3]) ev_some
    · refine ev_neg (by simp [h3]) ?_
      by_cases h2 : a0 = 2
      · have e : onlyV a0 a1 a2 s = (2, a1, 0, ⟨#[]⟩) := by unfold onlyV; rw [if_neg (by omega), if_pos h2]
        rw [e]
        exact ev_pos h2 ev_some
      · by_cases h4 : a0 = 4
        · have e : onlyV a0 a1 a2 s = (4, 0, 0, s) := by unfold onlyV; rw [if_neg (by omega), if_neg h2, if_pos h4]
          rw [e]
          exact ev_neg h2 (ev_pos h4 ev_some)
        · have e : onlyV a0 a1 a2 s = (a0, 0, 0, ⟨#[]⟩) := by unfold onlyV; rw [if_neg (by omega), if_neg h2, if_neg h4]
          rw [e]
          exact ev_neg h2 (ev_neg h4 ev_some)
theorem L_empty : L (⟨#[]⟩ : ByteArray) = [] := rfl
theorem right_ev (a0 a1 a2 : Int) (s : ByteArray) (h2 : 0 ≤ a2) : Ev (fun k => col_Right.f k a0 a1 a2 s) (decide (Right ⟨a0, a1, a2, L s⟩)) := by
  unfold col_Right.f
  by_cases h : a0 ≥ 0
  rotate_left
  · refine ev_neg h (ev_some' ?_)
    exact (decide_eq_false (by unfold Right; simp only; omega)).symm
  refine ev_pos h ?_
  by_cases h5 : a0 < 5
  rotate_left
  · refine ev_neg h5 (ev_some' ?_)
    exact (decide_eq_false (by unfold Right; simp only; omega)).symm
  refine ev_pos h5 (ev_bind (only_ev a0 a1 a2 s) (ev_const ?_))
  have : a0 = 0 ∨ a0 = 1 ∨ a0 = 2 ∨ a0 = 3 ∨ a0 = 4 := by omega
  rcases this with rfl | rfl | rfl | rfl | rfl
  · rw [show onlyV 0 a1 a2 s = (0, 0, 0, ⟨#[]⟩) from rfl]
    simp only [L_toList, L_empty]
    generalize L s = l
    by_cases q1 : a1 = 0 <;> by_cases q2 : a2 = 0 <;> cases l <;> simp [Right, q1, q2]
  · rw [show onlyV 1 a1 a2 s = (1, 0, a2, ⟨#[]⟩) from rfl]
    simp only [L_toList, L_empty]
    generalize L s = l
    by_cases q1 : a1 = 0 <;> by_cases q2 : a2 = 0 <;> cases l <;> simp [Right, q1, q2]
  · rw [show onlyV 2 a1 a2 s = (2, a1, 0, ⟨#[]⟩) from rfl]
    simp only [L_toList, L_empty]
    generalize L s = l
    by_cases q1 : a1 = 0 <;> by_cases q2 : a2 = 0 <;> cases l <;> simp [Right, q1, q2]
  · rw [show onlyV 3 a1 a2 s = (3, 0, a2, ⟨#[]⟩) from rfl]
    simp only [L_toList, L_empty]
    generalize L s = l
    by_cases q1 : a1 = 0 <;> by_cases q2 : a2 = 0 <;> cases l <;> simp [Right, q1, q2]
  · rw [show onlyV 4 a1 a2 s = (4, 0, 0, s) from rfl]
    simp only [L_toList, L_empty]
    generalize L s = l
    by_cases q1 : a1 = 0 <;> by_cases q2 : a2 = 0 <;> cases l <;> simp [Right, q1, q2]
theorem rright_eq (a0 a1 a2 : Int) (s : ByteArray) : withyref03_Right.f a0 a1 a2 s = some (decide (Right ⟨a0, a1, a2, L s⟩)) := by
  unfold withyref03_Right.f
  simp only [L_toList]
  generalize L s = l
  by_cases c0 : a0 = 0
  · subst c0; by_cases q1 : a1 = 0 <;> by_cases q2 : a2 = 0 <;> cases l <;> simp [Right, q1, q2]
  by_cases c1 : a0 = 1
  · subst c1; by_cases q1 : a1 = 0 <;> by_cases q2 : a2 ≤ 1 <;> cases l <;> simp [Right, q1, q2]
  by_cases c2 : a0 = 2
  · subst c2; by_cases q1 : a1 = 0 <;> by_cases q2 : a2 = 0 <;> cases l <;> simp [Right, q1, q2]
  by_cases c3 : a0 = 3
  · subst c3; by_cases q1 : a1 = 0 <;> by_cases q2 : a2 = 0 <;> cases l <;> simp [Right, q1, q2]
  by_cases c4 : a0 = 4
  · subst c4; by_cases q1 : a1 = 0 <;> by_cases q2 : a2 = 0 <;> cases l <;> simp [Right, q1, q2]
  · simp [Right, c0, c1, c2, c3, c4]

/-! ### which one is ahead -/
theorem cmpI_eq (a b : Int) : cmp_Compare_int.f a b = some (icmp a b) := by
  unfold cmp_Compare_int.f cmp_isNaN_int.f icmp
  by_cases h : a < b <;> by_cases h2 : a > b <;> simp [h, h2]
theorem cmpI64_eq (a b : Int) : cmp_Compare_int64.f a b = some (icmp a b) := by
  unfold cmp_Compare_int64.f cmp_isNaN_int64.f icmp
  by_cases h : a < b <;> by_cases h2 : a > b <;> simp [h, h2]
theorem cmpU64_eq (a b : Int) : cmp_Compare_uint64.f a b = some (icmp a b) := by
  unfold cmp_Compare_uint64.f cmp_isNaN_uint64.f icmp
  by_cases h : a < b <;> by_cases h2 : a > b <;> simp [h, h2]
theorem scmp_eq : ∀ (a b : List UInt8), Lib.compareBytes a b = scmp a b
  | [], [] => rfl
  | [], _ :: _ => rfl
  | _ :: _, [] => rfl
  | a :: al, b :: bl => by
    have ih := scmp_eq al bl
    unfold scmp at ih ⊢
    show (if a < b then -1 else if b < a then 1 else Lib.compareBytes al bl) = if (decide (a < b) || (a == b && Op.bytesLess al bl)) = true then -1 else if (decide (b < a) || (b == a && Op.bytesLess bl al)) = true then 1 else 0
    rcases Go.Proofs.YtjfgeppfkhaliaaDoorMath.u8_total a b with h | h | h
    · simp [h]
    · subst h
      have := Go.Proofs.YtjfgeppfkhaliaaDoorMath.u8_lt_irrefl a
      simp [this, ih]
    · have h2 := Go.Proofs.YtjfgeppfkhaliaaDoorMath.u8_lt_asymm h
      have h3 : ¬ a = b := fun e => Go.Proofs.YtjfgeppfkhaliaaDoorMath.u8_ne_of_lt h e.symm
      simp [h, h2, h3]
theorem or_ev (a b c d : Int) : Ev (fun k => cmp_Or_int.f k [a, b, c, d]) (cmpOr a (cmpOr b (cmpOr c d))) := by
  unfold cmp_Or_int.f
  refine ev_step ?_
  simp only [cmp_Or_int.l0, List.length_cons, List.length_nil]
  refine ev_pos (by omega) (ev_pos (by omega) (ev_pos (by omega) ?_))
  rw [show rd [a, b, c, d] 0 = a from rfl]
  unfold cmpOr
  by_cases ha : a = 0
  rotate_left
  · exact ev_neg ha (ev_some' (by rw [if_pos ha]))
  refine ev_pos ha (ev_step ?_)
  rw [if_neg (by simp [ha])]
  simp only [cmp_Or_int.l0, show wrap64 (0 + 1) = 1 by rw [w64 (by omega) (by omega)]; rfl]
  refine ev_pos (by omega) (ev_pos (by omega) (ev_pos (by simp) ?_))
  rw [show rd [a, b, c, d] 1 = b from rfl]
  by_cases hb : b = 0
  rotate_left
  · exact ev_neg hb (ev_some' (by rw [if_pos hb]))
  refine ev_pos hb (ev_step ?_)
  rw [if_neg (by simp [hb])]
  simp only [cmp_Or_int.l0, show wrap64 (1 + 1) = 2 by rw [w64 (by omega) (by omega)]; rfl]
  refine ev_pos (by omega) (ev_pos (by omega) (ev_pos (by simp) ?_))
  rw [show rd [a, b, c, d] 2 = c from rfl]
  by_cases hc : c = 0
  rotate_left
  · exact ev_neg hc (ev_some' (by rw [if_pos hc]))
  refine ev_pos hc (ev_step ?_)
  rw [if_neg (by simp [hc])]
  simp only [cmp_Or_int.l0, show wrap64 (2 + 1) = 3 by rw [w64 (by omega) (by omega)]; rfl]
  refine ev_pos (by omega) (ev_pos (by omega) (ev_pos (by simp) ?_))
  rw [show rd [a, b, c, d] 3 = d from rfl]
  by_cases hd : d = 0
  rotate_left
  · exact ev_neg hd (ev_some' rfl)
  refine ev_pos hd (ev_step ?_)
  simp only [cmp_Or_int.l0, show wrap64 (3 + 1) = 4 by rw [w64 (by omega) (by omega)]; rfl]
  exact ev_neg (by omega) (ev_some' hd.symm)
theorem compare_ev (a0 a1 a2 : Int) (s : ByteArray) (b0 b1 b2 : Int) (t : ByteArray) : Ev (fun k => col_Compare.f k a0 a1 a2 s b0 b1 b2 t) (ccmp ⟨a0, a1, a2, L s⟩ ⟨b0, b1, b2, L t⟩) := by
  unfold col_Compare.f
  refine ev_bind_now (cmpI_eq _ _) (ev_bind_now (cmpI64_eq _ _) (ev_bind_now (cmpU64_eq _ _) (ev_bind_now (a := scmp (L s) (L t)) (by unfold strings_Compare.f; rw [scmp_eq]) (ev_bind (or_ev _ _ _ _) ev_some))))

/-! ### a number's bytes -/
theorem be_get : ∀ (k n i : Nat), i < k → (be k n)[i]? = some (UInt8.ofNat (n / 256 ^ (k - 1 - i)))
  | 0, _, i, h => by omega
  | k + 1, n, 0, h => by simp [be]
  | k + 1, n, i + 1, h => by
    show (be k n)[i]? = _
    rw [be_get k n i (by omega), show k + 1 - 1 - (i + 1) = k - 1 - i by omega]
theorem pow_shift (j : Nat) : (2 : Nat) ^ (8 * j) = 256 ^ j := by rw [Nat.pow_mul]
theorem shr_eq (n j : Nat) (h : j ≤ 7) : shr .u64 (n : Int) ((8 * j : Nat) : Int) = ((n / 256 ^ j : Nat) : Int) := by
  unfold shr
  have e : IntKind.u64.bits = 64 := rfl
  rw [Int.toNat_natCast, Nat.min_eq_left (by rw [e]; omega), ← pow_shift, Int.natCast_ediv, Int.natCast_pow]
  rfl
theorem wput_loop (n kk : Nat) (hk : kk ≤ 8) (hd : UInt8) : ∀ (d i : Nat), i ≤ kk → kk - i = d → Ev (fun k => word_Put.l1 k (n : Int) (kk : Int) (ns (hd :: (be kk n).take i)) (kk : Int) (i : Int)) (B (hd :: be kk n)) := by
  intro d
  induction d with
  | zero =>
    intro i hi hd'
    obtain rfl : i = kk := by omega
    refine ev_step ?_
    simp only [word_Put.l1]
    refine ev_neg (by omega) (ev_some' ?_)
    rw [List.take_of_length_le (by rw [be_length]; exact Nat.le_refl _), str_ns]
  | succ d ih =>
    intro i hi hd'
    refine ev_step ?_
    simp only [word_Put.l1]
    have e1 : wrap64 (8 * wrap64 (wrap64 ((kk : Int) - 1) - (i : Int))) = ((8 * (kk - 1 - i) : Nat) : Int) := by
      rw [w64 (x := (kk : Int) - 1) (by omega) (by omega), w64 (x := (kk : Int) - 1 - (i : Int)) (by omega) (by omega), w64 (by omega) (by omega)]; omega
    rw [e1, shr_eq n (kk - 1 - i) (by omega), ns_of]
    refine ev_pos (by omega) (ev_pos (by omega) (ev_pos (by rw [ns_length, List.length_cons, List.length_take, be_length]; omega) ?_))
    rw [w64_succ (by omega)]
    have e2 : ns (hd :: (be kk n).take i) ++ [((UInt8.ofNat (n / 256 ^ (kk - 1 - i))).toNat : Int)] = ns (hd :: (be kk n).take (i + 1)) := by
      rw [List.take_add_one, be_get kk n i (by omega)]
      show _ = ns ((hd :: (be kk n).take i) ++ [UInt8.ofNat (n / 256 ^ (kk - 1 - i))])
      rw [ns_append]
      rfl
    rw [e2]
    exact ih (i + 1) (by omega) (by omega)
theorem wput_head (n : Nat) (hn : 67823 < n) (h : n < 18446744073709551616) : ∀ (d j : Nat), 3 ≤ j → j ≤ nb n → nb n - j = d → Ev (fun k => word_Put.l0 k (n : Int) (j : Int)) (B (wput n)) := by
  have hb := nb_le n
  have fin : Ev (fun k => word_Put.j1 k (n : Int) (nb n : Int)) (B (wput n)) := by
    refine ev_step ?_
    simp only [word_Put.j1]
    have e : (wrap64 (247 + (nb n : Int))) % 256 = ((UInt8.ofNat (247 + nb n)).toNat : Int) := by
      rw [w64 (by omega) (by omega), ← ns_of]; generalize nb n = q; omega
    have := wput_loop n (nb n) hb.2 (UInt8.ofNat (247 + nb n)) _ 0 (Nat.zero_le _) rfl
    rw [e]
    have ew : wput n = UInt8.ofNat (247 + nb n) :: be (nb n) n := by
      unfold wput whead wcount wrest
      rw [if_neg (by omega), if_neg (by omega), if_neg (by omega), if_neg (by omega), if_neg (by omega), if_neg (by omega), if_neg (by omega), if_neg (by omega), if_neg (by omega)]
    rw [ew]
    exact this
  intro d
  induction d with
  | zero =>
    intro j h3 hj hd
    obtain rfl : j = nb n := by omega
    refine ev_step ?_
    simp only [word_Put.l0]
    by_cases h8 : nb n < 8
    · refine ev_pos (by omega) ?_
      rw [show wrap64 (8 * (nb n : Int)) = ((8 * nb n : Nat) : Int) by rw [w64 (by omega) (by omega)]; omega, shr_eq n (nb n) (by omega), Nat.div_eq_of_lt (nb_lt h)]
      exact ev_pos (by omega) (ev_neg (by omega) fin)
    · exact ev_neg (by omega) fin
  | succ d ih =>
    intro j h3 hj hd
    refine ev_step ?_
    simp only [word_Put.l0]
    have hg := nb_ge (n := n) (by omega) j h3 (by omega)
    refine ev_pos (by omega) ?_
    rw [show wrap64 (8 * (j : Int)) = ((8 * j : Nat) : Int) by rw [w64 (by omega) (by omega)]; omega, shr_eq n j (by omega), w64_succ (by omega)]
    refine ev_pos (by omega) (ev_pos ?_ (ih (j + 1) (by omega) (by omega) (by omega)))
    have : 0 < n / 256 ^ j := Nat.div_pos hg (Nat.pow_pos (by omega))
    omega
theorem u64_in {x : Int} (h0 : 0 ≤ x) (h1 : x < 18446744073709551616) : IntKind.u64.wrap x = x := by rw [IntKind.wrap_u64]; omega
theorem put_ev (n : Nat) (h : n < 18446744073709551616) : Ev (fun k => word_Put.f k (n : Int)) (B (wput n)) := by
  unfold word_Put.f
  by_cases h1 : n ≤ 240
  · refine ev_pos (by omega) (ev_some' ?_)
    rw [str_one]
    congr 1
    unfold wput whead wcount
    rw [if_pos h1, if_pos h1]
    rfl
  refine ev_neg (by omega) ?_
  by_cases h2 : n ≤ 2287
  · refine ev_pos (by omega) (ev_some' ?_)
    rw [u64_in (x := (n : Int) - 240) (by omega) (by omega), u64_in (by omega) (by omega)]
    rw [show (241 + ((n : Int) - 240) / 256) = ((241 + (n - 240) / 256 : Nat) : Int) by omega, show (n : Int) - 240 = ((n - 240 : Nat) : Int) by omega, ns_of, ns_of]
    rw [show [((UInt8.ofNat (241 + (n - 240) / 256)).toNat : Int), ((UInt8.ofNat (n - 240)).toNat : Int)] = ns [UInt8.ofNat (241 + (n - 240) / 256), UInt8.ofNat (n - 240)] from rfl, str_ns]
    congr 1
    unfold wput whead wcount wrest
    rw [if_neg h1, if_pos h2, if_neg h1, if_pos h2, if_neg h1, if_pos h2]
    simp [be, ofMod]
  refine ev_neg (by omega) ?_
  by_cases h3 : n ≤ 67823
  · refine ev_pos (by omega) (ev_some' ?_)
    rw [u64_in (x := (n : Int) - 2287) (by omega) (by omega), u64_in (x := (n : Int) - 2287 - 1) (by omega) (by omega)]
    rw [show ((n : Int) - 2287 - 1) / 256 = (((n - 2288) / 256 : Nat) : Int) by omega, show (n : Int) - 2287 - 1 = ((n - 2288 : Nat) : Int) by omega, ns_of, ns_of]
    rw [show [249, ((UInt8.ofNat ((n - 2288) / 256)).toNat : Int), ((UInt8.ofNat (n - 2288)).toNat : Int)] = ns [249, UInt8.ofNat ((n - 2288) / 256), UInt8.ofNat (n - 2288)] from rfl, str_ns]
    congr 1
    unfold wput whead wcount wrest
    rw [if_neg h1, if_neg h2, if_pos h3, if_neg h1, if_neg h2, if_pos h3, if_neg h1, if_neg h2, if_pos h3]
    simp [be]
  · refine ev_neg (by omega) ?_
    exact wput_head n (by omega) h _ 3 (by omega) (nb_le n).1 rfl
theorem wide_eq (n : Nat) : col_wide.f (n : Int) = some (B (be 8 n)) := by
  unfold col_wide.f
  refine congrArg some ?_
  rw [← str_ns]
  congr 1
end Go.Proofs.YtjfgeppfkhaliaaDoor.Spec
