/- What is proved here: what the document's functions of keys answer. Conditions: as each theorem names them. -/
import Derived.Test.YthaicofleloplaaDoorPF
import Derived.Test.YthaicofleloplaaDoorKAll
set_option linter.unusedVariables false
set_option linter.unusedSimpArgs false
namespace Go.Proofs.YthaicofleloplaaDoor.Spec
open Go.RowKit Go.Proofs.YthaicofleloplaaDoorW.PrintWords Go.Proofs.YthaicofleloplaaDoorW.PrintLast Go.Proofs.YthaicofleloplaaDoorW.PrintMore Go.Proofs.YthaicofleloplaaDoorEv Go.Proofs.YthaicofleloplaaDoorCol Go.Proofs.YthaicofleloplaaDoorR Go.Proofs.YthaicofleloplaaDoor.P

theorem tmod_nat (n m : Nat) : Int.tmod (n : Int) (m : Int) = ((n % m : Nat) : Int) := (Int.ofNat_tmod n m).symm
theorem tdiv_nat (n m : Nat) : Int.tdiv (n : Int) (m : Int) = ((n / m : Nat) : Int) := (Int.ofNat_tdiv n m).symm
theorem rdigit (n : Nat) : (Int.tmod (n : Int) 256) % 256 = ((UInt8.ofNat n).toNat : Int) := by
  have := tmod_nat n 256
  rw [show ((256 : Nat) : Int) = 256 from rfl] at this
  rw [this, ns_of, ofMod]
theorem rdiv (n : Nat) (h : n < 18446744073709551616) : IntKind.u64.wrap (Int.tdiv (n : Int) 256) = ((n / 256 : Nat) : Int) := by
  have := tdiv_nat n 256
  rw [show ((256 : Nat) : Int) = 256 from rfl] at this
  rw [this, u64_in (by omega) (by omega)]
theorem digits_loop : ∀ (j n : Nat) (out : List Int), j ≤ 8 → n < 256 ^ j → (0 < j → 256 ^ (j - 1) ≤ n) → out.length + j ≤ 1000 → Ev (fun k => withyref01_digits.l0 k (n : Int) out) (ns (be j n) ++ out) := by
  intro j
  induction j with
  | zero =>
    intro n out h8 hn hg hl
    have : n = 0 := by simpa using hn
    subst this
    refine ev_step ?_
    simp only [withyref01_digits.l0]
    exact ev_neg (by omega) ev_some
  | succ j ih =>
    intro n out h8 hn hg hl
    have h1 : 256 ^ j ≤ n := hg (by omega)
    have hp : 0 < 256 ^ j := Nat.pow_pos (by omega)
    have hlt : n < 18446744073709551616 := by
      have : 256 ^ (j + 1) ≤ 256 ^ 8 := Nat.pow_le_pow_right (by omega) h8
      have e8 : (256 : Nat) ^ 8 = 18446744073709551616 := by decide
      omega
    refine ev_step ?_
    simp only [withyref01_digits.l0]
    refine ev_pos (by omega) (ev_bind_now rfl (ev_pos (by simp; omega) ?_))
    rw [rdigit, rdiv n hlt]
    have := ih (n / 256) ([((UInt8.ofNat n).toNat : Int)] ++ out) (by omega) (by rw [Nat.pow_succ] at hn; omega) (fun hj => by
      obtain ⟨i, rfl⟩ : ∃ i, j = i + 1 := ⟨j - 1, by omega⟩
      rw [Nat.pow_succ] at h1
      simp only [Nat.add_sub_cancel]
      omega) (by simp; omega)
    rw [be_snoc, ns_append, List.append_assoc]
    exact this
theorem rwput_ev (n : Nat) (h : n < 18446744073709551616) : Ev (fun k => withyref01_Put.f k (n : Int)) (B (wput n)) := by
  unfold withyref01_Put.f
  by_cases h1 : n ≤ 240
  · refine ev_pos (by omega) (ev_some' ?_)
    rw [str_one]
    congr 1
    unfold wput whead wcount
    rw [if_pos h1, if_pos h1]
    rfl
  refine ev_neg (by omega) ?_
  by_cases h2 : n ≤ 2287
  · refine ev_pos (by omega) (ev_some' ?_)
    rw [u64_in (x := (n : Int) - 240) (by omega) (by omega), show (n : Int) - 240 = ((n - 240 : Nat) : Int) by omega, rdiv _ (by omega), rdigit, u64_in (by omega) (by omega)]
    rw [show (241 + (((n - 240) / 256 : Nat) : Int)) = ((241 + (n - 240) / 256 : Nat) : Int) by omega, ns_of]
    rw [show [((UInt8.ofNat (241 + (n - 240) / 256)).toNat : Int), ((UInt8.ofNat (n - 240)).toNat : Int)] = ns [UInt8.ofNat (241 + (n - 240) / 256), UInt8.ofNat (n - 240)] from rfl, str_ns]
    congr 1
    unfold wput whead wcount wrest
    rw [if_neg h1, if_pos h2, if_neg h1, if_pos h2, if_neg h1, if_pos h2]
    simp [be, ofMod]
  refine ev_neg (by omega) ?_
  by_cases h3 : n ≤ 67823
  · refine ev_pos (by omega) (ev_some' ?_)
    rw [u64_in (x := (n : Int) - 2288) (by omega) (by omega), show (n : Int) - 2288 = ((n - 2288 : Nat) : Int) by omega, rdiv _ (by omega), rdigit, ns_of]
    rw [show [249, ((UInt8.ofNat ((n - 2288) / 256)).toNat : Int), ((UInt8.ofNat (n - 2288)).toNat : Int)] = ns [249, UInt8.ofNat ((n - 2288) / 256), UInt8.ofNat (n - 2288)] from rfl, str_ns]
    congr 1
    unfold wput whead wcount wrest
    rw [if_neg h1, if_neg h2, if_pos h3, if_neg h1, if_neg h2, if_pos h3, if_neg h1, if_neg h2, if_pos h3]
    simp [be]
  · refine ev_neg (by omega) ?_
    have hb := nb_le n
    have hd := digits_loop (nb n) n [] hb.2 (nb_lt h) (fun _ => by
      by_cases q : nb n = 3
      · rw [q]; simp; omega
      · exact nb_ge (n := n) (by omega) (nb n - 1) (by omega) (by omega)) (by simp; omega)
    rw [List.append_nil] at hd
    have hd' : Ev (fun k => withyref01_digits.f k (n : Int)) (ns (be (nb n) n)) := hd
    refine ev_bind hd' (ev_bind_now rfl ?_)
    have e1 : [(wrap64 (247 + ((ns (be (nb n) n)).length : Int))) % 256] = ns [UInt8.ofNat (247 + nb n)] := by
      rw [ns_length, be_length, w64 (by omega) (by omega), show (247 : Int) + (nb n : Int) = ((247 + nb n : Nat) : Int) by omega, ns_of]; rfl
    rw [e1, str_ns, str_ns]
    refine ev_pos (by rw [B_size, B_size, be_length]; simp; omega) (ev_some' (L_inj ?_))
    rw [L_append, B_L, B_L, B_L]
    unfold wput whead wcount wrest
    rw [if_neg h1, if_neg h2, if_neg h3, if_neg h1, if_neg h2, if_neg h3, if_neg h1, if_neg h2, if_neg h3]
    rfl
theorem follow_eq (c : Nat) (h : c < 256) : withyref01_follow.f (c : Int) = some (wmore c : Int) := by
  unfold withyref01_follow.f wmore
  by_cases h1 : c ≤ 240
  · rw [if_pos (by omega), if_neg (by omega), if_neg (by omega), if_neg (by omega)]; rfl
  · rw [if_neg (by omega)]
    by_cases h2 : c ≤ 248
    · rw [if_pos (by omega), if_neg (by omega), if_neg (by omega), if_pos (by omega)]; rfl
    · rw [if_neg (by omega)]
      by_cases h3 : c = 249
      · rw [if_pos (by omega), if_neg (by omega), if_pos h3]; rfl
      · rw [if_neg (by omega), if_pos (by omega), w64 (x := (c : Int)) (by omega) (by omega), w64 (by omega) (by omega)]
        exact congrArg some (by omega)
theorem rwget_close (s : ByteArray) (p cnt n : Nat) (x : Int) (hx : x = (n : Int)) (hn : n < 18446744073709551616) (hp : p + 1 + cnt ≤ s.size) (hs : s.size ≤ 10000) (l : List UInt8) (hl : ((L s).drop p).take (1 + cnt) = l) :
    Ev (fun k => (withyref01_Put.f k x).bind fun t => (if (p : Int) ≤ ((p + 1 + cnt : Nat) : Int) then (if ((p + 1 + cnt : Nat) : Int) ≤ (s.size : Int) then (if t.toList = (s.extract ((p : Int) : Int).toNat (((p + 1 + cnt : Nat) : Int) : Int).toNat).toList then (some (x, ((p + 1 + cnt : Nat) : Int), (0 : Int))) else (some (0, 0, 3))) else (none)) else (none)))
      (if wput n = l then ((n : Int), ((p + (1 + cnt) : Nat) : Int), 0) else (0, 0, 3)) := by
  subst hx
  refine ev_bind (rwput_ev n hn) (ev_pos (by omega) (ev_pos (by omega) ?_))
  rw [L_toList, B_L, Int.toNat_natCast, Int.toNat_natCast, L_toList, L_extract, show p + 1 + cnt - p = 1 + cnt by omega, hl, show p + 1 + cnt = p + (1 + cnt) by omega]
  by_cases q : wput n = l
  · rw [if_pos q, if_pos q]; exact ev_some
  · rw [if_neg q, if_neg q]; exact ev_some
theorem rwget_loop (s : ByteArray) (p cnt : Nat) (hc : cnt ≤ 8) (hp : p + 1 + cnt ≤ s.size) (hs : s.size ≤ 10000) (R : Int × Int × Int)
    (hfin : Ev (fun k => withyref01_Get.l0 k s (p : Int) ((p + 1 + cnt : Nat) : Int) ((val (((L s).drop (p + 1)).take cnt) : Nat) : Int) ((p + 1 + cnt : Nat) : Int)) R) :
    ∀ (d i : Nat), i ≤ cnt → cnt - i = d → Ev (fun k => withyref01_Get.l0 k s (p : Int) ((p + 1 + cnt : Nat) : Int) ((val (((L s).drop (p + 1)).take i) : Nat) : Int) ((p + 1 + i : Nat) : Int)) R := by
  intro d
  induction d with
  | zero =>
    intro i hi hd
    obtain rfl : i = cnt := by omega
    exact hfin
  | succ d ih =>
    intro i hi hd
    refine ev_step ?_
    simp only [withyref01_Get.l0]
    obtain ⟨b, hb, hbt⟩ := drop_at s (p := p + 1) (i := i) (by omega)
    rw [hbt, add_eq _ b (val_take_lt _ (by omega)), ← val_take hb, w64_succ (by omega)]
    exact ev_pos (by omega) (ev_pos (by omega) (ev_pos (by omega) (ih (i + 1) (by omega) (by omega))))
theorem rwget_ev (s : ByteArray) (p : Nat) (hp : p ≤ s.size) (hs : s.size ≤ 10000) : Ev (fun k => withyref01_Get.f k s (p : Int)) (wres s p) := by
  unfold withyref01_Get.f
  refine ev_neg (by omega) (ev_step ?_)
  simp only [withyref01_Get.j0]
  refine ev_neg (by simp; omega) ?_
  by_cases hz : p = s.size
  · have e : wres s p = (0, 0, 7) := by unfold wres; rw [drop_end s (by omega)]; rfl
    rw [e]
    refine ev_pos (by omega) (ev_step ?_)
    simp only [withyref01_Get.j1]
    exact ev_pos trivial ev_some
  obtain ⟨c, hc, hd, hbt⟩ := drop_some s (p := p) (by omega)
  have hc8 := u8_lt c
  have hm := wmore_le c.toNat hc8
  refine ev_neg (by omega) (ev_pos (by omega) (ev_pos (by omega) ?_))
  rw [hbt]
  refine ev_bind_now (follow_eq _ hc8) (ev_step ?_)
  simp only [withyref01_Get.j1]
  have et : wrap64 (wrap64 ((p : Int) + 1) + (wmore c.toNat : Int)) = ((p + 1 + wmore c.toNat : Nat) : Int) := by
    rw [w64 (x := (p : Int) + 1) (by omega) (by omega), w64 (by omega) (by omega)]; omega
  rw [et]
  have hlen := drop_len s (p + 1)
  have hw : wparse ((L s).drop p) = if ((L s).drop (p + 1)).length < wmore c.toNat then (0, 0, 7) else if wput (wval c.toNat (val (((L s).drop (p + 1)).take (wmore c.toNat)))) = c :: ((L s).drop (p + 1)).take (wmore c.toNat) then (wval c.toNat (val (((L s).drop (p + 1)).take (wmore c.toNat))), 1 + wmore c.toNat, 0) else (0, 0, 3) := by rw [hd]; rfl
  by_cases hsh : s.size - p - 1 < wmore c.toNat
  · rw [if_pos (by omega)] at hw
    have e : wres s p = (0, 0, 7) := by unfold wres; rw [hw]; rfl
    rw [e]
    exact ev_pos (by simp; omega) ev_some
  refine ev_neg (by simp; omega) (ev_pos (by omega) (ev_pos (by omega) ?_))
  rw [if_neg (by omega)] at hw
  rw [hbt]
  refine ev_bind_now (follow_eq _ hc8) ?_
  rw [et, w64_succ (by omega)]
  have hfin := rwget_loop s p (wmore c.toNat) hm (by omega) hs (wres s p) ?_ _ 0 (Nat.zero_le _) rfl
  · exact hfin
  refine ev_step ?_
  simp only [withyref01_Get.l0]
  refine ev_neg (by omega) (ev_pos (by omega) (ev_pos (by omega) ?_))
  have hv := val_take_le ((L s).drop (p + 1)) hm
  have hvl := wval_lt c.toNat (val (((L s).drop (p + 1)).take (wmore c.toNat))) hc8 (val_lt _ _ (by rw [List.length_take]; omega))
  have hl : ((L s).drop p).take (1 + wmore c.toNat) = c :: ((L s).drop (p + 1)).take (wmore c.toNat) := by rw [hd, Nat.add_comm, List.take_succ_cons]
  have hcl := fun x hx => rwget_close s p (wmore c.toNat) _ x hx hvl (by omega) hs _ hl
  have hres : wres s p = if wput (wval c.toNat (val (((L s).drop (p + 1)).take (wmore c.toNat)))) = c :: ((L s).drop (p + 1)).take (wmore c.toNat) then (((wval c.toNat (val (((L s).drop (p + 1)).take (wmore c.toNat))) : Nat) : Int), ((p + (1 + wmore c.toNat) : Nat) : Int), 0) else (0, 0, 3) := by
    unfold wres
    rw [hw]
    by_cases q : wput (wval c.toNat (val (((L s).drop (p + 1)).take (wmore c.toNat)))) = c :: ((L s).drop (p + 1)).take (wmore c.toNat)
    · rw [if_pos q, if_pos q]; rfl
    · rw [if_neg q, if_neg q]; rfl
  rw [hres, hbt]
  generalize hV : val (((L s).drop (p + 1)).take (wmore c.toNat)) = v at *
  have v1 : wmore c.toNat = 1 → v < 256 := fun e => by
    have := val_lt 1 (((L s).drop (p + 1)).take (wmore c.toNat)) (by rw [List.length_take]; omega)
    rw [hV] at this; simpa using this
  have v2 : wmore c.toNat = 2 → v < 65536 := fun e => by
    have := val_lt 2 (((L s).drop (p + 1)).take (wmore c.toNat)) (by rw [List.length_take]; omega)
    rw [hV] at this; simpa using this
  by_cases k0 : c.toNat ≤ 240
  · have e0 : wmore c.toNat = 0 := by unfold wmore; rw [if_neg (by omega), if_neg (by omega), if_neg (by omega)]
    refine ev_pos (by omega) (hcl _ ?_)
    unfold wval
    rw [if_pos e0, u64_in (by omega) (by omega)]
  refine ev_neg (by omega) ?_
  by_cases k1 : c.toNat ≤ 248
  · have e0 : wmore c.toNat = 1 := by unfold wmore; rw [if_neg (by omega), if_neg (by omega), if_pos (by omega)]
    have := v1 e0
    refine ev_pos (by omega) (hcl _ ?_)
    unfold wval
    rw [if_neg (by omega), if_pos e0, u64_in (x := (c.toNat : Int)) (by omega) (by omega), u64_in (x := (c.toNat : Int) - 241) (by omega) (by omega), u64_in (x := 256 * ((c.toNat : Int) - 241)) (by omega) (by omega), u64_in (x := 240 + 256 * ((c.toNat : Int) - 241)) (by omega) (by omega), u64_in (by omega) (by omega)]
    omega
  refine ev_neg (by omega) ?_
  by_cases k2 : c.toNat = 249
  · have e0 : wmore c.toNat = 2 := by unfold wmore; rw [if_neg (by omega), if_pos k2]
    have := v2 e0
    refine ev_pos (by omega) (hcl _ ?_)
    unfold wval
    rw [if_neg (by omega), if_neg (by omega), if_pos e0, u64_in (by omega) (by omega)]
    omega
  · have e0 : wmore c.toNat = c.toNat - 247 := by unfold wmore; rw [if_pos (by omega)]
    refine ev_neg (by omega) (hcl _ ?_)
    unfold wval
    rw [if_neg (by omega), if_neg (by omega), if_neg (by omega)]
/-! ### columns' bytes -/
theorem escL_cons (c : UInt8) (t : List UInt8) : escL (c :: t) = if c = 0 then 0 :: 255 :: escL t else c :: escL t := rfl
theorem escL_append : ∀ a b : List UInt8, escL (a ++ b) = escL a ++ escL b
  | [], b => rfl
  | c :: a, b => by
    show escL (c :: (a ++ b)) = _
    rw [escL_cons, escL_cons, escL_append a b]
    by_cases h : c = 0
    · rw [if_pos h, if_pos h]; rfl
    · rw [if_neg h, if_neg h]; rfl
theorem rint_loop (n : Nat) (hn : n < 18446744073709551616) : ∀ (d i : Nat), i ≤ 8 → 8 - i = d → Ev (fun k => withyref03_Put.l0 k ((n / 256 ^ i : Nat) : Int) (B (be i n)) (i : Int)) (B (48 :: be 8 n), 0) := by
  intro d
  induction d with
  | zero =>
    intro i hi hd
    obtain rfl : i = 8 := by omega
    refine ev_step ?_
    simp only [withyref03_Put.l0]
    refine ev_neg (by omega) (ev_pos (by rw [B_size, be_length]; omega) (ev_some' ?_))
    exact congrArg (fun x => (x, (0 : Int))) (L_inj (by rw [L_append, B_L, B_L]; rfl))
  | succ d ih =>
    intro i hi hd
    have hq : n / 256 ^ i < 18446744073709551616 := Nat.lt_of_le_of_lt (Nat.div_le_self _ _) hn
    refine ev_step ?_
    simp only [withyref03_Put.l0]
    refine ev_pos (by omega) (ev_bind_now rfl ?_)
    rw [rdigit, show [((UInt8.ofNat (n / 256 ^ i)).toNat : Int)] = ns [UInt8.ofNat (n / 256 ^ i)] from rfl, str_ns, rdiv _ hq, w64_succ (by omega)]
    refine ev_pos (by rw [B_size, B_size, be_length]; simp; omega) ?_
    have e1 : B [UInt8.ofNat (n / 256 ^ i)] ++ B (be i n) = B (be (i + 1) n) := L_inj (by rw [L_append, B_L, B_L, B_L]; rfl)
    have e2 : n / 256 ^ i / 256 = n / 256 ^ (i + 1) := by rw [Nat.div_div_eq_div_mul, Nat.pow_succ]
    rw [e1, e2]
    exact ih (i + 1) (by omega) (by omega)
theorem rtext_loop (s : ByteArray) (hs : s.size ≤ 1000) (y0 y1 y2 : Int) : ∀ (d i : Nat), i ≤ s.size → s.size - i = d → Ev (fun k => withyref03_Put.l1 k (ns (80 :: escL ((L s).take i))) (i : Int) y0 y1 y2 s) (B (80 :: (escL (L s) ++ [0, 1])), 0) := by
  intro d
  induction d with
  | zero =>
    intro i hi hd
    obtain rfl : i = s.size := by omega
    have hl := escL_le (L s)
    rw [L_length] at hl
    refine ev_step ?_
    simp only [withyref03_Put.l1]
    rw [List.take_of_length_le (by rw [L_length]; exact Nat.le_refl _), ns_length]
    refine ev_neg (by omega) (ev_pos (by simp; omega) (ev_bind_now rfl (ev_pos (by rw [List.length_append, ns_length]; simp; omega) (ev_some' ?_))))
    refine congrArg (fun x => (x, (0 : Int))) ?_
    rw [show ns (80 :: escL (L s)) ++ [0] ++ [1] = ns (80 :: (escL (L s) ++ [0, 1])) by
      rw [show (80 :: (escL (L s) ++ [0, 1])) = (80 :: escL (L s)) ++ [0] ++ [1] by simp, ns_append, ns_append]; rfl, str_ns]
  | succ d ih =>
    intro i hi hd
    have hl := escL_le ((L s).take i)
    rw [List.length_take, L_length] at hl
    obtain ⟨c, hc, _, hbt⟩ := drop_some s (p := i) (by omega)
    have hc8 := u8_lt c
    refine ev_step ?_
    simp only [withyref03_Put.l1]
    rw [hbt, w64_succ (by omega), ns_length]
    refine ev_pos (by omega) (ev_pos (by omega) (ev_pos (by simp; omega) (ev_bind_now rfl ?_)))
    have et : (L s).take (i + 1) = (L s).take i ++ [c] := by rw [List.take_add_one, hc]; rfl
    have := ih (i + 1) (by omega) (by omega)
    rw [et, escL_append] at this
    by_cases h0 : c = 0
    · subst h0
      refine ev_pos rfl (ev_pos (by rw [List.length_append, ns_length]; simp; omega) ?_)
      have e1 : ns (80 :: escL ((L s).take i)) ++ [((0 : UInt8).toNat : Int)] ++ [255] = ns (80 :: (escL ((L s).take i) ++ escL [0])) := by
        rw [show (80 :: (escL ((L s).take i) ++ escL [0])) = (80 :: escL ((L s).take i)) ++ [0] ++ [255] by simp [escL], ns_append, ns_append]; rfl
      rw [e1]
      exact this
    · refine ev_neg (fun e => h0 (by rw [← UInt8.toNat_inj]; exact Int.ofNat.inj e)) ?_
      have e1 : ns (80 :: escL ((L s).take i)) ++ [(c.toNat : Int)] = ns (80 :: (escL ((L s).take i) ++ escL [c])) := by
        rw [show (80 :: (escL ((L s).take i) ++ escL [c])) = (80 :: escL ((L s).take i)) ++ [c] by simp [escL, h0], ns_append]; rfl
      rw [e1]
      exact this
theorem rput_ev (a0 a1 a2 : Int) (s : ByteArray) (b : Bd ⟨a0, a1, a2, L s⟩) (hs : s.size ≤ 1000) : Ev (fun k => withyref03_Put.f k a0 a1 a2 s) (putV a0 a1 a2 s) := by
  have b1 : -9223372036854775808 ≤ a1 := b.i0
  have b2 : a1 ≤ 9223372036854775807 := b.i1
  have b3 : 0 ≤ a2 := b.u0
  have b4 : a2 ≤ 18446744073709551615 := b.u1
  unfold withyref03_Put.f putV
  refine ev_bind_now (rright_eq a0 a1 a2 s) ?_
  by_cases hr : Right ⟨a0, a1, a2, L s⟩
  rotate_left
  · exact ev_neg (by rw [decide_eq_false hr]; decide) (ev_some' (by rw [if_neg hr]))
  refine ev_pos (decide_eq_true hr) ?_
  rw [if_pos hr]
  obtain ⟨n, rfl⟩ := Int.eq_ofNat_of_zero_le b3
  rcases hr with ⟨h1, h2, h3, h4⟩ | ⟨h1, h2, h3, h4⟩ | ⟨h1, h2, h3⟩ | ⟨h1, h2, h3⟩ | ⟨h1, h2, h3⟩ <;> simp only at h1 h2 h3
  · subst h1
    exact ev_pos rfl (ev_some' rfl)
  · subst h1
    refine ev_neg (by omega) (ev_pos rfl (ev_some' ?_))
    have : n = 0 ∨ n = 1 := by omega
    rcases this with rfl | rfl
    · rw [u64_in (by omega) (by omega)]
      exact congrArg (fun x => (x, (0 : Int))) (one_eq 32 (by omega))
    · rw [u64_in (by omega) (by omega)]
      exact congrArg (fun x => (x, (0 : Int))) (one_eq 33 (by omega))
  · subst h1
    refine ev_neg (by omega) (ev_neg (by omega) (ev_pos rfl ?_))
    have e : IntKind.u64.wrap (IntKind.u64.wrap a1 + 9223372036854775808) = (((a1 + 9223372036854775808).toNat / 256 ^ 0 : Nat) : Int) := by
      rw [IntKind.wrap_u64, IntKind.wrap_u64, Nat.pow_zero, Nat.div_one]; omega
    rw [e]
    exact rint_loop (a1 + 9223372036854775808).toNat (by omega) _ 0 (by omega) rfl
  · subst h1
    refine ev_neg (by omega) (ev_neg (by omega) (ev_neg (by omega) (ev_pos rfl ?_)))
    have hl := wput_length n
    have := wcount_le n
    refine ev_bind (rwput_ev n (by omega)) (ev_pos (by rw [B_size]; omega) (ev_some' ?_))
    exact congrArg (fun x => (x, (0 : Int))) (L_inj (by rw [L_append, B_L, B_L]; rfl))
  · subst h1
    refine ev_neg (by omega) (ev_neg (by omega) (ev_neg (by omega) (ev_neg (by omega) ?_)))
    exact rtext_loop s hs _ _ _ _ 0 (Nat.zero_le _) rfl
/-! ### which one is ahead -/
theorem rsign_eq (a b : Bool) : withyref03_sign.f a b = some (if a = true then -1 else if b = true then 1 else 0) := by
  unfold withyref03_sign.f
  cases a <;> cases b <;> rfl
theorem rcompare_eq (a0 a1 a2 : Int) (s : ByteArray) (b0 b1 b2 : Int) (t : ByteArray) (ra : Right ⟨a0, a1, a2, L s⟩) (rb : Right ⟨b0, b1, b2, L t⟩) : withyref03_Compare.f a0 a1 a2 s b0 b1 b2 t = some (ccmp ⟨a0, a1, a2, L s⟩ ⟨b0, b1, b2, L t⟩) := by
  unfold withyref03_Compare.f
  simp only [rsign_eq, Option.bind_some, L_toList]
  unfold ccmp
  simp only
  by_cases h0 : a0 = b0
  rotate_left
  · rw [if_neg h0]
    congr 1
    rcases icmp_cases a0 b0 with ⟨e, h, _⟩ | ⟨e, h, _⟩ | ⟨e, h, _⟩
    · rw [e, cmpOr_neg, if_pos (by simp [h])]
    · exact absurd h h0
    · rw [e, cmpOr_one, if_neg (by simp; omega), if_pos trivial]
  rw [if_pos h0]
  have e0 : icmp a0 b0 = 0 := by rcases icmp_cases a0 b0 with ⟨e, h, _⟩ | ⟨e, h, _⟩ | ⟨e, h, _⟩ <;> omega
  rw [e0, cmpOr_zero]
  have ic : ∀ x y : Int, (if decide (x < y) = true then (-1 : Int) else if decide (x > y) = true then 1 else 0) = icmp x y := by
    intro x y; unfold icmp; simp
  have sc : ∀ x y : List UInt8, (if Op.bytesLess x y = true then (-1 : Int) else if Op.bytesLess y x = true then 1 else 0) = scmp x y := fun x y => rfl
  have i0 : icmp 0 0 = 0 := rfl
  have s0 : scmp [] [] = 0 := rfl
  have cz : ∀ x, cmpOr x 0 = x := fun x => by unfold cmpOr; by_cases h : x = 0 <;> simp [h]
  by_cases h2 : a0 = 2
  · rw [if_pos h2, ic]
    congr 1
    rcases ra with ⟨q, _⟩ | ⟨q, _⟩ | ⟨q, q1, q2⟩ | ⟨q, _⟩ | ⟨q, _⟩ <;> simp only at q <;> first | omega | skip
    rcases rb with ⟨p, _⟩ | ⟨p, _⟩ | ⟨p, p1, p2⟩ | ⟨p, _⟩ | ⟨p, _⟩ <;> simp only at p <;> first | omega | skip
    simp only at q1 q2 p1 p2
    rw [q1, q2, p1, p2, i0, s0, cz, cz]
  rw [if_neg h2]
  by_cases h4 : a0 = 4
  · rw [if_pos h4, sc]
    congr 1
    rcases ra with ⟨q, _⟩ | ⟨q, _⟩ | ⟨q, _⟩ | ⟨q, _⟩ | ⟨q, q1, q2⟩ <;> simp only at q <;> first | omega | skip
    rcases rb with ⟨p, _⟩ | ⟨p, _⟩ | ⟨p, _⟩ | ⟨p, _⟩ | ⟨p, p1, p2⟩ <;> simp only at p <;> first | omega | skip
    simp only at q1 q2 p1 p2
    rw [q1, q2, p1, p2, i0, cmpOr_zero, cmpOr_zero]
  rw [if_neg h4, ic]
  congr 1
  have qa : a1 = 0 ∧ L s = [] := by
    rcases ra with ⟨_, q, _, p⟩ | ⟨_, q, _, p⟩ | ⟨q, _⟩ | ⟨_, q, p⟩ | ⟨q, _⟩ <;> simp only at q <;> first | exact ⟨q, p⟩ | exact absurd q h2 | exact absurd q h4
  have qb : b1 = 0 ∧ L t = [] := by
    rcases rb with ⟨_, q, _, p⟩ | ⟨_, q, _, p⟩ | ⟨q, _⟩ | ⟨_, q, p⟩ | ⟨q, _⟩ <;> simp only at q <;> first | exact ⟨q, p⟩ | omega
  rw [qa.1, qb.1, qa.2, qb.2, i0, s0, cz, cmpOr_zero]
/-! ### the column of bytes -/
theorem rgtext_loop (s : ByteArray) (hs : s.size ≤ 10000) : ∀ (n p : Nat) (acc : List UInt8), s.size - p ≤ n → p ≤ s.size → acc.length ≤ p → Ev (fun k => withyref03_text.l0 k s (p : Int) (ns acc)) (tres acc p (tparse ((L s).drop p))) := by
  intro n
  induction n using Nat.strongRecOn with
  | _ n ih =>
    intro p acc hn hp ha
    refine ev_step ?_
    simp only [withyref03_text.l0]
    by_cases hz : p = s.size
    · rw [drop_end s (by omega)]
      exact ev_neg (by omega) ev_some
    obtain ⟨c, hc, hd, hbt⟩ := drop_some s (p := p) (by omega)
    refine ev_pos (by omega) (ev_pos (by omega) ?_)
    rw [hbt, hd, w64_succ (by omega), ns_length, w64 (x := (p : Int) + 2) (by omega) (by omega), show (p : Int) + 2 = ((p + 1 + 1 : Nat) : Int) by omega]
    have hc8 := u8_lt c
    by_cases h0 : c = 0
    · subst h0
      refine ev_pos rfl ?_
      by_cases hz2 : p + 1 = s.size
      · rw [drop_end s (by omega)]
        exact ev_pos (by omega) ev_some
      obtain ⟨d, hd', hdd, hdbt⟩ := drop_some s (p := p + 1) (by omega)
      refine ev_neg (by omega) (ev_pos (by omega) (ev_pos (by omega) ?_))
      rw [hdbt, hdd]
      have hd8 := u8_lt d
      by_cases h1 : d = 1
      · subst h1
        refine ev_pos rfl (ev_some' ?_)
        rw [str_ns, tparse_end]
        unfold tres
        rw [if_pos rfl, List.append_nil]
        rfl
      have h1' : d.toNat ≠ 1 := fun e => h1 (by rw [← UInt8.toNat_inj]; exact e)
      refine ev_neg (by omega) ?_
      by_cases h2 : d = 255
      · subst h2
        refine ev_pos rfl (ev_pos (by omega) ?_)
        rw [tparse_esc, tres_cons]
        have := ih (n - 2) (by omega) (p + 1 + 1) (acc ++ [0]) (by omega) (by omega) (by rw [List.length_append]; simp; omega)
        rw [ns_append] at this
        exact this
      · have h2' : d.toNat ≠ 255 := fun e => h2 (by rw [← UInt8.toNat_inj]; exact e)
        refine ev_neg (by omega) (ev_some' ?_)
        have e : tparse (0 :: d :: (L s).drop (p + 1 + 1)) = ([], 0, 3) := by
          show (if (0 : UInt8) = 0 then (if d = 1 then _ else if d = 255 then _ else _) else _) = _
          rw [if_pos rfl, if_neg h1, if_neg h2]
        rw [e]
        rfl
    · have h0' : c.toNat ≠ 0 := fun e => h0 (by rw [← UInt8.toNat_inj]; exact e)
      refine ev_neg (by omega) (ev_pos (by omega) ?_)
      rw [tparse_ne h0, tres_cons]
      have := ih (n - 1) (by omega) (p + 1) (acc ++ [c]) (by omega) (by omega) (by rw [List.length_append]; simp; omega)
      rw [ns_append] at this
      exact this
theorem rgtext_ev (s : ByteArray) (p : Nat) (hp : p ≤ s.size) (hs : s.size ≤ 10000) : Ev (fun k => withyref03_text.f k s (p : Int)) (tres [] p (tparse ((L s).drop p))) := by
  unfold withyref03_text.f
  exact rgtext_loop s hs _ p [] (Nat.le_refl _) hp (Nat.zero_le _)
theorem rgint_ev (s : ByteArray) (p : Nat) (hp : p + 9 ≤ s.size) (hs : s.size ≤ 10000) : Ev (fun k => withyref03_Get.l0 k s (p : Int) 0 1) (2, (val (((L s).drop (p + 1)).take 8) : Int) - 9223372036854775808, 0, (⟨#[]⟩ : ByteArray), ((p + 9 : Nat) : Int), 0) := by
  have loop : ∀ (d i : Nat), i ≤ 8 → 8 - i = d → Ev (fun k => withyref03_Get.l0 k s (p : Int) ((val (((L s).drop (p + 1)).take i) : Nat) : Int) ((i + 1 : Nat) : Int)) (2, (val (((L s).drop (p + 1)).take 8) : Int) - 9223372036854775808, 0, (⟨#[]⟩ : ByteArray), ((p + 9 : Nat) : Int), 0) := by
    intro d
    induction d with
    | zero =>
      intro i hi hd
      obtain rfl : i = 8 := by omega
      have hv := val_take_le ((L s).drop (p + 1)) (Nat.le_refl 8)
      refine ev_step ?_
      simp only [withyref03_Get.l0]
      refine ev_neg (by omega) (ev_some' ?_)
      have e1 : wrap64 (IntKind.u64.wrap (((val (((L s).drop (p + 1)).take 8) : Nat) : Int) - 9223372036854775808)) = ((val (((L s).drop (p + 1)).take 8) : Nat) : Int) - 9223372036854775808 := by
        rw [IntKind.wrap_u64]; unfold wrap64; omega
      rw [e1, w64 (by omega) (by omega)]
      rfl
    | succ d ih =>
      intro i hi hd
      refine ev_step ?_
      simp only [withyref03_Get.l0]
      obtain ⟨b, hb, hbt⟩ := drop_at s (p := p + 1) (i := i) (by omega)
      have e : wrap64 ((p : Int) + ((i + 1 : Nat) : Int)) = ((p + 1 + i : Nat) : Int) := by rw [w64 (by omega) (by omega)]; omega
      rw [e, hbt, add_eq _ b (val_take_lt _ (by omega)), ← val_take hb, w64_succ (by omega)]
      exact ev_pos (by omega) (ev_pos (by omega) (ev_pos (by omega) (ih (i + 1) (by omega) (by omega))))
  exact loop _ 0 (by omega) rfl
theorem rget_ev (s : ByteArray) (a : Int) (hs : s.size ≤ 10000) : Ev (fun k => withyref03_Get.f k s a) (getV s a) := by
  unfold withyref03_Get.f getV
  by_cases hn : a < 0
  · rw [if_pos (.inl hn)]
    refine ev_pos hn (ev_step ?_)
    simp only [withyref03_Get.j0]
    exact ev_pos trivial ev_some
  refine ev_neg hn (ev_step ?_)
  simp only [withyref03_Get.j0]
  obtain ⟨p, rfl⟩ := Int.eq_ofNat_of_zero_le (by omega : 0 ≤ a)
  by_cases hg : p > s.size
  · rw [if_pos (.inr (by omega))]
    exact ev_pos (decide_eq_true (by omega)) ev_some
  rw [if_neg (by omega), Int.toNat_natCast]
  refine ev_neg (by rw [decide_eq_false (by omega)]; decide) ?_
  by_cases hz : p = s.size
  · rw [drop_end s (by omega)]
    exact ev_pos (by omega) ev_some
  obtain ⟨c, hc, hd, hbt⟩ := drop_some s (p := p) (by omega)
  have hc8 := u8_lt c
  refine ev_neg (by omega) (ev_pos (by omega) (ev_pos (by omega) ?_))
  rw [hbt, w64_succ (by omega), hd]
  by_cases c16 : c.toNat = 16
  · obtain rfl : c = 16 := by rw [← UInt8.toNat_inj]; exact c16
    exact ev_pos (by omega) (ev_some' rfl)
  refine ev_neg (by omega) ?_
  by_cases c32 : c.toNat = 32
  · obtain rfl : c = 32 := by rw [← UInt8.toNat_inj]; exact c32
    refine ev_pos (by omega) (ev_step ?_)
    simp only [withyref03_Get.j1]
    refine ev_pos (by simp) (ev_pos (by omega) (ev_pos (by omega) (ev_some' ?_)))
    rw [hbt, w64_succ (by omega), u64_in (x := ((32 : UInt8).toNat : Int)) (by omega) (by omega), u64_in (by omega) (by omega)]
    rfl
  refine ev_neg (by omega) (ev_step ?_)
  simp only [withyref03_Get.j1]
  by_cases c33 : c.toNat = 33
  · obtain rfl : c = 33 := by rw [← UInt8.toNat_inj]; exact c33
    refine ev_pos (by simp) (ev_pos (by omega) (ev_pos (by omega) (ev_some' ?_)))
    rw [hbt, w64_succ (by omega), u64_in (x := ((33 : UInt8).toNat : Int)) (by omega) (by omega), u64_in (by omega) (by omega)]
    rfl
  refine ev_neg (by simp; omega) ?_
  by_cases c48 : c.toNat = 48
  · obtain rfl : c = 48 := by rw [← UInt8.toNat_inj]; exact c48
    have hlen := drop_len s (p + 1)
    refine ev_pos (by omega) ?_
    rw [w64 (by omega) (by omega)]
    by_cases q : s.size - (p + 1) < 8
    · have e2 : cparse (48 :: (L s).drop (p + 1)) = (zero, 0, 7) := by rw [cparse_48, if_pos (by omega)]
      rw [e2]
      exact ev_pos (by omega) ev_some
    · have e2 : cparse (48 :: (L s).drop (p + 1)) = (⟨2, (val (((L s).drop (p + 1)).take 8) : Int) - 9223372036854775808, 0, []⟩, 9, 0) := by rw [cparse_48, if_neg (by omega)]
      rw [e2]
      refine ev_neg (by omega) (ev_eq (rgint_ev s p (by omega) hs) ?_)
      rfl
  refine ev_neg (by omega) ?_
  by_cases c64 : c.toNat = 64
  · obtain rfl : c = 64 := by rw [← UInt8.toNat_inj]; exact c64
    have hi := rwget_ev s (p + 1) (by omega) hs
    by_cases q : (wparse ((L s).drop (p + 1))).2.2 = 0
    · have e1 : wres s (p + 1) = (((wparse ((L s).drop (p + 1))).1 : Int), ((p + 1 + (wparse ((L s).drop (p + 1))).2.1 : Nat) : Int), 0) := by unfold wres; rw [if_pos q]
      have e2 : cparse (64 :: (L s).drop (p + 1)) = (⟨3, 0, ((wparse ((L s).drop (p + 1))).1 : Int), []⟩, (wparse ((L s).drop (p + 1))).2.1 + 1, 0) := by rw [cparse_64, if_pos q]
      rw [e1] at hi
      rw [e2, w64_succ (by omega)]
      refine ev_pos (by omega) (ev_bind hi (ev_pos rfl (ev_some' ?_)))
      unfold gres
      rw [if_pos rfl]
      simp only
      rw [show p + ((wparse ((L s).drop (p + 1))).2.1 + 1) = p + 1 + (wparse ((L s).drop (p + 1))).2.1 by omega]
      rfl
    · have e1 : wres s (p + 1) = (0, 0, (wparse ((L s).drop (p + 1))).2.2) := by unfold wres; rw [if_neg q]
      have e2 : cparse (64 :: (L s).drop (p + 1)) = (zero, 0, (wparse ((L s).drop (p + 1))).2.2) := by rw [cparse_64, if_neg q]
      rw [e1] at hi
      rw [e2, w64_succ (by omega)]
      refine ev_pos (by omega) (ev_bind hi (ev_neg q (ev_some' ?_)))
      unfold gres
      rw [if_neg q]
  refine ev_neg (by omega) ?_
  by_cases c80 : c.toNat = 80
  · obtain rfl : c = 80 := by rw [← UInt8.toNat_inj]; exact c80
    have hi := rgtext_ev s (p + 1) (by omega) hs
    by_cases q : (tparse ((L s).drop (p + 1))).2.2 = 0
    · have e1 : tres [] (p + 1) (tparse ((L s).drop (p + 1))) = (B (tparse ((L s).drop (p + 1))).1, ((p + 1 + (tparse ((L s).drop (p + 1))).2.1 : Nat) : Int), 0) := by unfold tres; rw [if_pos q]; rfl
      have e2 : cparse (80 :: (L s).drop (p + 1)) = (⟨4, 0, 0, (tparse ((L s).drop (p + 1))).1⟩, (tparse ((L s).drop (p + 1))).2.1 + 1, 0) := by rw [cparse_80, if_pos q]
      rw [e1] at hi
      rw [e2, w64_succ (by omega)]
      refine ev_pos (by omega) (ev_bind hi (ev_pos rfl (ev_some' ?_)))
      unfold gres
      rw [if_pos rfl]
      simp only
      rw [show p + ((tparse ((L s).drop (p + 1))).2.1 + 1) = p + 1 + (tparse ((L s).drop (p + 1))).2.1 by omega]
    · have e1 : tres [] (p + 1) (tparse ((L s).drop (p + 1))) = (⟨#[]⟩, 0, (tparse ((L s).drop (p + 1))).2.2) := by unfold tres; rw [if_neg q]
      have e2 : cparse (80 :: (L s).drop (p + 1)) = (zero, 0, (tparse ((L s).drop (p + 1))).2.2) := by rw [cparse_80, if_neg q]
      rw [e1] at hi
      rw [e2, w64_succ (by omega)]
      refine ev_pos (by omega) (ev_bind hi (ev_neg q (ev_some' ?_)))
      unfold gres
      rw [if_neg q]
  · refine ev_neg (by omega) (ev_some' ?_)
    rw [cparse_no _ c16 c32 c33 c48 c64 c80]
    rfl
end Go.Proofs.YthaicofleloplaaDoor.Spec
namespace Go.Proofs.YthaicofleloplaaDoor.Spec
open Go.RowKit Go.Proofs.YthaicofleloplaaDoorW.PrintWords Go.Proofs.YthaicofleloplaaDoorW.PrintLast Go.Proofs.YthaicofleloplaaDoorW.PrintMore Go.Proofs.YthaicofleloplaaDoorEv Go.Proofs.YthaicofleloplaaDoorCol Go.Proofs.YthaicofleloplaaDoorR Go.Proofs.YthaicofleloplaaDoor.P

theorem rkput_loop : ∀ (rest pre : List Cl), Sm (pre ++ rest) → Ev (fun k => withyref04_Put.l0 k ((pre ++ rest).map s56) (B (body pre)) (pre.length : Int)) (if ∀ c ∈ rest, Right c then (B (body pre ++ kput rest), 0) else (⟨#[]⟩, 3))
  | [], pre, hs => by
    have hb := body_le (cs := pre) fun c hc => (hs.each c (by simp [hc])).2
    have hl := hs.len
    rw [List.append_nil] at hl
    rw [if_pos (show ∀ c ∈ ([] : List Cl), Right c from fun c hc => by cases hc)]
    refine ev_step ?_
    simp only [withyref04_Put.l0, len_map56]
    refine ev_neg (by simp) (ev_pos (by rw [B_size]; omega) (ev_some' ?_))
    rw [show (⟨#[1]⟩ : ByteArray) = B [1] from rfl, B_append]
    rfl
  | c :: rest, pre, hs => by
    have ih := rkput_loop rest (pre ++ [c]) (by rw [snoc_eq]; exact hs)
    have hb := body_le (cs := pre) fun x hx => (hs.each x (by simp [hx])).2
    have hl := hs.len
    rw [List.length_append, List.length_cons] at hl
    have hc := hs.mem
    have hcl := cput_le c
    rw [snoc_eq, snoc_len] at ih
    refine ev_step ?_
    simp only [withyref04_Put.l0, rd56 (at_pre pre rest c), wsucc pre.length (by omega), len_map56]
    refine ev_pos (by rw [List.length_append, List.length_cons]; omega) (ev_pos (by omega) ?_)
    refine ev_bind (rput_ev c.kd c.i c.u (B c.s) (by rw [B_L]; exact hc.1) (by rw [B_size]; exact hc.2)) ?_
    rw [putV_c]
    by_cases hr : Right c
    · rw [if_pos hr]
      refine ev_pos rfl (ev_pos (by rw [B_size, B_size]; omega) ?_)
      rw [B_append, show body pre ++ cput c = body (pre ++ [c]) by rw [body_append, body_cons, body_nil, List.append_nil]]
      refine ev_eq ih ?_
      rw [kput_cons, body_append, body_cons, body_nil, List.append_nil, List.append_assoc]
      simp only [List.forall_mem_cons, hr, true_and]
    · rw [if_neg hr, if_neg (fun h => hr (h c (List.mem_cons_self ..)))]
      exact ev_neg (by decide) ev_some
theorem rkput_ev (cs : List Cl) (hs : Sm cs) : Ev (fun k => withyref04_Put.f k (cs.map s56)) (kputV cs) := rkput_loop cs [] hs
def rgetV (pre : List Cl) (r : List Cl × Int) : List S56 × Int := if r.2 = 0 then ((pre ++ r.1).map s56, 0) else ([], r.2)
theorem rkget_loop (s : ByteArray) (hs : s.size ≤ 10000) : ∀ (n p : Nat) (pre : List Cl), s.size - p ≤ n → p ≤ s.size → pre.length ≤ p → Ev (fun k => withyref04_Get.l0 k s (pre.map s56) (p : Int)) (rgetV pre (kp ((L s).drop p))) := by
  intro n
  induction n using Nat.strongRecOn with
  | _ n ih =>
    intro p pre hn hp hl
    refine ev_step ?_
    simp only [withyref04_Get.l0]
    have he : wrap64 ((s.size : Int) - 1) = (s.size : Int) - 1 := w64 (by omega) (by omega)
    by_cases hz : p = s.size
    · rw [drop_end s (by omega)]
      exact ev_pos (by omega) ev_some
    obtain ⟨c, hc, hd, hbt⟩ := drop_some s (p := p) (by omega)
    have hc8 := u8_lt c
    rw [he]
    refine ev_neg (by omega) (ev_pos (by omega) (ev_pos (by omega) ?_))
    by_cases h1 : c = 1
    · subst h1
      refine ev_pos (by rw [hbt]; rfl) (ev_step ?_)
      simp only [withyref04_Get.j1]
      by_cases hz2 : p + 1 = s.size
      · rw [hd, drop_end s (by omega), kp_end]
        refine ev_pos (by rw [beq_iff_eq]; omega) (ev_some' ?_)
        simp [rgetV]
      · obtain ⟨d, _, hd2, _⟩ := drop_some s (p := p + 1) (by omega)
        rw [hd, hd2, kp_more (by intro e; injection e with _ e; cases e) rfl]
        refine ev_neg (by rw [beq_iff_eq]; omega) (ev_pos (by omega) (ev_pos (by omega) (ev_pos (by rw [hbt]; rfl) ev_some)))
    · have h1' : c.toNat ≠ 1 := fun e => h1 (by rw [← UInt8.toNat_inj]; exact e)
      have hne : ((L s).drop p).head? ≠ some 1 := by rw [hd]; exact fun e => h1 (Option.some.inj e)
      have hg := rget_ev s (p : Int) hs
      rw [getV_at s p hp] at hg
      refine ev_neg (by rw [hbt]; omega) (ev_step ?_)
      simp only [withyref04_Get.j1]
      refine ev_neg (by decide) (ev_pos (by omega) (ev_pos (by omega) (ev_neg (by rw [hbt]; omega) (ev_bind hg ?_))))
      rcases cparse_once ((L s).drop p) with ⟨x, m, ec, _, _, m0, m1, _⟩ | ec | ec
      · rw [drop_len] at m1
        rw [kp_step hne ec, ec]
        have := ih (n - m) (by omega) (p + m) (pre ++ [x]) (by omega) (by omega) (by rw [snoc_len]; omega)
        rw [← List.drop_drop, show (pre ++ [x]).map s56 = pre.map s56 ++ [s56 x] by simp] at this
        refine ev_pos rfl (ev_pos (by rw [List.length_map]; omega) (ev_eq this ?_))
        unfold rgetV
        by_cases hk : (kp (((L s).drop p).drop m)).2 = 0
        · rw [if_pos hk, if_pos hk, if_pos rfl, snoc_eq]
        · rw [if_neg hk, if_neg hk, if_neg hk]
      · rw [kp_bad hne (by rw [ec]; decide), ec, gres_bad p (by decide)]
        exact ev_neg (by decide) ev_some
      · rw [kp_bad hne (by rw [ec]; decide), ec, gres_bad p (by decide)]
        exact ev_neg (by decide) ev_some
theorem rkget_ev (s : ByteArray) (hs : s.size ≤ 10000) : Ev (fun k => withyref04_Get.f k s) ((getW (L s)).1.map s56, (getW (L s)).2) := by
  refine ev_eq (rkget_loop s hs _ 0 [] (Nat.le_refl _) (Nat.zero_le _) (Nat.zero_le _)) ?_
  show rgetV [] (kp (L s)) = _
  unfold rgetV getW
  by_cases h : (kp (L s)).2 = 0
  · rw [if_pos h, if_pos h]; rfl
  · rw [if_neg h, if_neg h]; rfl
theorem rkpart_ev (s : ByteArray) (n : Int) (hs : s.size ≤ 1000) : Ev (fun k => withyref04_Part.f k s n) (partV (L s) n) := by
  unfold withyref04_Part.f
  have hread := rkget_ev s (by omega)
  rcases kp_res (L s) with ⟨cs, e, hr, el⟩ | e | e
  rotate_left
  · rw [show getW (L s) = ([], 7) by unfold getW; rw [e]; rfl] at hread
    rw [show partV (L s) n = (⟨#[]⟩, 7) by unfold partV; rw [e]; rfl]
    exact ev_bind hread (ev_neg (by decide) ev_some)
  · rw [show getW (L s) = ([], 3) by unfold getW; rw [e]; rfl] at hread
    rw [show partV (L s) n = (⟨#[]⟩, 3) by unfold partV; rw [e]; rfl]
    exact ev_bind hread (ev_neg (by decide) ev_some)
  rw [show getW (L s) = (cs, 0) by unfold getW; rw [e]; rfl] at hread
  refine ev_bind hread (ev_pos rfl ?_)
  simp only [len_map56]
  have hP : partV (L s) n = if n < 0 ∨ n > (cs.length : Int) then (⟨#[]⟩, 4) else (B (body (cs.take n.toNat)), 0) := by unfold partV; rw [e]; exact if_pos rfl
  by_cases h1 : n < 0
  · rw [hP, if_pos (Or.inl h1)]; exact ev_pos h1 ev_some
  refine ev_neg h1 ?_
  by_cases h2 : n > (cs.length : Int)
  · rw [hP, if_pos (Or.inr h2)]; exact ev_pos h2 ev_some
  rw [show partV (L s) n = (B (body (cs.take n.toNat)), 0) by rw [hP, if_neg (by omega)]]
  have hsz : s.size = (kput cs).length := by rw [← L_length, el]
  have hsm := (sm_of hr (by omega)).take n.toNat
  have hput := rkput_ev _ hsm
  rw [show kputV (cs.take n.toNat) = (B (kput (cs.take n.toNat)), 0) from if_pos fun c hc => (hr.take n.toNat c hc).1] at hput
  have hlt := body_take_le cs n.toNat
  have hkl : (kput (cs.take n.toNat)).length = (body (cs.take n.toNat)).length + 1 := by unfold kput; rw [List.length_append]; rfl
  rw [List.map_take] at hput
  refine ev_neg h2 (ev_pos (by omega) (ev_pos (by omega) (ev_bind hput ?_)))
  have hw : wrap64 (((kput (cs.take n.toNat)).length : Int) - 1) = ((body (cs.take n.toNat)).length : Int) := by rw [hkl, w64 (by omega) (by omega)]; omega
  simp only [B_size, hw]
  refine ev_pos (by omega) (ev_pos (by omega) (ev_some' ?_))
  rw [Int.toNat_natCast]
  refine congrArg (fun x => (x, (0 : Int))) (L_inj ?_)
  rw [L_to, B_L, B_L]
  unfold kput
  rw [List.take_left]
theorem rcmp_loop : ∀ (ra rb pa pb : List Cl), pa.length = pb.length → RB ra → RB rb → (pa ++ ra).length ≤ 1000 → Ev (fun k => withyref04_Compare.l0 k ((pa ++ ra).map s56) ((pb ++ rb).map s56) (pa.length : Int)) (kcmp ra rb)
  | [], rb, pa, pb, hp, ha, hb, hl => by
    refine ev_step ?_
    simp only [withyref04_Compare.l0, len_map56]
    refine ev_neg (by simp) (ev_step ?_)
    simp only [withyref04_Compare.j1, len_map56]
    refine ev_neg (by decide) ?_
    cases rb with
    | nil => exact ev_neg (by simp; omega) (ev_neg (by simp; omega) ev_some)
    | cons b rb => exact ev_pos (by simp; omega) ev_some
  | a :: ra, rb, pa, pb, hp, ha, hb, hl => by
    refine ev_step ?_
    rw [List.length_append, List.length_cons] at hl
    simp only [withyref04_Compare.l0, len_map56]
    refine ev_pos (by rw [List.length_append, List.length_cons]; omega) (ev_step ?_)
    simp only [withyref04_Compare.j1, len_map56, rd56 (at_pre pa ra a), wsucc pa.length (by omega)]
    cases rb with
    | nil => exact ev_neg (by simp; omega) (ev_neg (by simp; omega) (ev_pos (by simp; omega) ev_some))
    | cons b rb =>
      have hb' : rd_T56 ((pb ++ b :: rb).map s56) (pa.length : Int) = s56 b := by rw [hp]; exact rd56 (at_pre pb rb b)
      simp only [hb']
      refine ev_pos (by rw [decide_eq_true_eq, List.length_append, List.length_cons]; omega) (ev_pos (by omega) (ev_pos (by rw [List.length_append, List.length_cons]; omega) (ev_pos (by rw [List.length_append, List.length_cons]; omega) ?_)))
      have hc := rcompare_eq a.kd a.i a.u (B a.s) b.kd b.i b.u (B b.s) (by rw [B_L]; exact ha.head.1) (by rw [B_L]; exact hb.head.1)
      rw [B_L, B_L] at hc
      refine ev_bind_now hc ?_
      show Ev _ (cmpOr (ccmp a b) (kcmp ra rb))
      by_cases h0 : ccmp a b = 0
      · refine ev_pos h0 ?_
        have ih := rcmp_loop ra rb (pa ++ [a]) (pb ++ [b]) (by rw [snoc_len, snoc_len, hp]) ha.tail hb.tail (by rw [snoc_eq, List.length_append, List.length_cons]; exact hl)
        rw [snoc_eq, snoc_eq, snoc_len] at ih
        rw [h0, cmpOr_zero]
        exact ih
      · exact ev_neg h0 (ev_some' (by unfold cmpOr; rw [if_pos h0]))
theorem rkcompare_ev (a b : List Cl) (ha : RB a) (hb : RB b) (hl : a.length ≤ 1000) : Ev (fun k => withyref04_Compare.f k (a.map s56) (b.map s56)) (kcmp a b) := rcmp_loop a b [] [] rfl ha hb hl
end Go.Proofs.YthaicofleloplaaDoor.Spec
