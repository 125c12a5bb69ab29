/- What is proved here: that col's Get answers just the column of bytes. Conditions: at most 10000 bytes. -/
import Derived.Test.YtjfgeppfkhaliaaDoorCPut
set_option linter.unusedVariables false
set_option linter.unusedSimpArgs false
namespace Go.Proofs.YtjfgeppfkhaliaaDoor.Spec
open Go.RowKit Go.Proofs.YtjfgeppfkhaliaaDoorW.PrintWords Go.Proofs.YtjfgeppfkhaliaaDoorW.PrintLast Go.Proofs.YtjfgeppfkhaliaaDoorW.PrintMore Go.Proofs.YtjfgeppfkhaliaaDoorEv Go.Proofs.YtjfgeppfkhaliaaDoorCol Go.Proofs.YtjfgeppfkhaliaaDoorR Go.Proofs.YtjfgeppfkhaliaaDoor.P

theorem or_eq (v : Nat) (b : UInt8) (h : v < 72057594037927936) : Go.bits .or .u64 (IntKind.u64.wrap ((v : Int) * 256)) (IntKind.u64.wrap (b.toNat : Int)) = ((v * 256 + b.toNat : Nat) : Int) := by
  have hb := u8_lt b
  rw [u64_in (by omega) (by omega), u64_in (by omega) (by omega), show (v : Int) * 256 = ((v * 256 : Nat) : Int) by omega, u64_or_nat _ _ (by omega) (by omega)]
  have := Nat.two_pow_add_eq_or_of_lt (i := 8) (b := b.toNat) hb v
  rw [show v * 256 = 2 ^ 8 * v by omega, this]
theorem add_eq (v : Nat) (b : UInt8) (h : v < 72057594037927936) : IntKind.u64.wrap ((IntKind.u64.wrap ((v : Int) * 256)) + (IntKind.u64.wrap (b.toNat : Int))) = ((v * 256 + b.toNat : Nat) : Int) := by
  have hb := u8_lt b
  rw [u64_in (x := (v : Int) * 256) (by omega) (by omega), u64_in (x := (b.toNat : Int)) (by omega) (by omega), u64_in (by omega) (by omega)]
  omega
theorem val_take {l : List UInt8} {i : Nat} {b : UInt8} (h : l[i]? = some b) : val (l.take (i + 1)) = val (l.take i) * 256 + b.toNat := by
  rw [List.take_add_one, h]
  exact val_snoc _ _
theorem val_take_lt (l : List UInt8) {i : Nat} (h : i ≤ 7) : val (l.take i) < 72057594037927936 := by
  have h1 := val_lt _ (l.take i) rfl
  have h2 : (l.take i).length ≤ 7 := by rw [List.length_take]; omega
  have h3 : 256 ^ (l.take i).length ≤ 256 ^ 7 := Nat.pow_le_pow_right (by omega) h2
  have e : (256 : Nat) ^ 7 = 72057594037927936 := by decide
  omega
theorem val_take_le (l : List UInt8) {i : Nat} (h : i ≤ 8) : val (l.take i) < 18446744073709551616 := by
  have h1 := val_lt _ (l.take i) rfl
  have h2 : (l.take i).length ≤ 8 := by rw [List.length_take]; omega
  have h3 : 256 ^ (l.take i).length ≤ 256 ^ 8 := Nat.pow_le_pow_right (by omega) h2
  have e : (256 : Nat) ^ 8 = 18446744073709551616 := by decide
  omega
theorem drop_some (s : ByteArray) {p : Nat} (h : p < s.size) : ∃ c, (L s)[p]? = some c ∧ (L s).drop p = c :: (L s).drop (p + 1) ∧ bt s (p : Int) = (c.toNat : Int) := by
  have hl : p < (L s).length := by rw [L_length]; exact h
  exact ⟨(L s)[p], List.getElem?_eq_getElem hl, (List.drop_eq_getElem_cons hl), bt_L s p hl⟩
theorem drop_at (s : ByteArray) {p i : Nat} (h : p + i < s.size) : ∃ b, ((L s).drop p)[i]? = some b ∧ bt s ((p + i : Nat) : Int) = (b.toNat : Int) := by
  have hl : p + i < (L s).length := by rw [L_length]; exact h
  exact ⟨(L s)[p + i], by rw [List.getElem?_drop, List.getElem?_eq_getElem hl], bt_L s (p + i) hl⟩
theorem drop_len (s : ByteArray) (p : Nat) : ((L s).drop p).length = s.size - p := by rw [List.length_drop, L_length]
theorem drop_end (s : ByteArray) {p : Nat} (h : s.size ≤ p) : (L s).drop p = [] := List.drop_eq_nil_of_le (by rw [L_length]; exact h)
/-! ### numbers -/
theorem more_eq (c : Nat) (h : c < 256) : word_more.f (c : Int) = some (wmore c : Int) := by
  unfold word_more.f wmore
  by_cases h1 : c > 249
  · rw [if_pos (by omega), if_pos h1, w64 (x := (c : Int)) (by omega) (by omega), w64 (by omega) (by omega)]
    exact congrArg some (by omega)
  · rw [if_neg (by omega), if_neg h1]
    by_cases h2 : c = 249
    · rw [if_pos (by omega), if_pos h2]; rfl
    · rw [if_neg (by omega), if_neg h2]
      by_cases h3 : c ≥ 241
      · rw [if_pos (by omega), if_pos h3]; rfl
      · rw [if_neg (by omega), if_neg h3]; rfl
def wres (s : ByteArray) (p : Nat) : Int × Int × Int := if (wparse ((L s).drop p)).2.2 = 0 then (((wparse ((L s).drop p)).1 : Int), ((p + (wparse ((L s).drop p)).2.1 : Nat) : Int), 0) else (0, 0, (wparse ((L s).drop p)).2.2)
theorem wget_close (s : ByteArray) (p cnt n : Nat) (hn : n < 18446744073709551616) (hp : p + 1 + cnt ≤ s.size) (hs : s.size ≤ 10000) (l : List UInt8) (hl : ((L s).drop p).take (1 + cnt) = l) :
    Ev (fun k => (word_Put.f k (n : Int)).bind fun t => (if (p : Int) ≤ (wrap64 ((wrap64 ((p : Int) + 1)) + (cnt : Int))) then (if (wrap64 ((wrap64 ((p : Int) + 1)) + (cnt : Int))) ≤ (s.size : Int) then (if t.toList = (s.extract ((p : Int) : Int).toNat ((wrap64 ((wrap64 ((p : Int) + 1)) + (cnt : Int))) : Int).toNat).toList then (some ((n : Int), wrap64 ((wrap64 ((p : Int) + 1)) + (cnt : Int)), (0 : Int))) else (some (0, 0, 3))) else (none)) else (none)))
      (if wput n = l then ((n : Int), ((p + (1 + cnt) : Nat) : Int), 0) else (0, 0, 3)) := by
  have e : wrap64 ((wrap64 ((p : Int) + 1)) + (cnt : Int)) = ((p + (1 + cnt) : Nat) : Int) := by
    rw [w64 (x := (p : Int) + 1) (by omega) (by omega), w64 (by omega) (by omega)]; omega
  rw [e]
  refine ev_bind (put_ev n hn) (ev_pos (by omega) (ev_pos (by omega) ?_))
  rw [L_toList, B_L, Int.toNat_natCast, Int.toNat_natCast, L_toList, L_extract, show p + (1 + cnt) - p = 1 + cnt by omega, hl]
  by_cases q : wput n = l
  · rw [if_pos q, if_pos q]; exact ev_some
  · rw [if_neg q, if_neg q]; exact ev_some
theorem wget_loop (s : ByteArray) (p cnt : Nat) (hc : cnt ≤ 8) (hp : p + 1 + cnt ≤ s.size) (hs : s.size ≤ 10000) (R : Int × Int × Int)
    (hfin : Ev (fun k => word_Get.l0 k s (p : Int) (cnt : Int) ((val (((L s).drop (p + 1)).take cnt) : Nat) : Int) (cnt : Int) (cnt : Int)) R) :
    ∀ (d i : Nat), i ≤ cnt → cnt - i = d → Ev (fun k => word_Get.l0 k s (p : Int) (cnt : Int) ((val (((L s).drop (p + 1)).take i) : Nat) : Int) (cnt : Int) (i : Int)) R := by
  intro d
  induction d with
  | zero =>
    intro i hi hd
    obtain rfl : i = cnt := by omega
    exact hfin
  | succ d ih =>
    intro i hi hd
    refine ev_step ?_
    simp only [word_Get.l0]
    obtain ⟨b, hb, hbt⟩ := drop_at s (p := p + 1) (i := i) (by omega)
    have e : wrap64 (wrap64 ((p : Int) + 1) + (i : Int)) = ((p + 1 + i : Nat) : Int) := by
      rw [w64 (x := (p : Int) + 1) (by omega) (by omega), w64 (by omega) (by omega)]; omega
    rw [e, hbt, or_eq _ b (val_take_lt _ (by omega)), ← val_take hb, w64_succ (by omega)]
    exact ev_pos (by omega) (ev_pos (by omega) (ev_pos (by omega) (ih (i + 1) (by omega) (by omega))))
theorem wget_ev (s : ByteArray) (p : Nat) (hp : p ≤ s.size) (hs : s.size ≤ 10000) : Ev (fun k => word_Get.f k s (p : Int)) (wres s p) := by
  unfold word_Get.f
  refine ev_neg (by omega) (ev_step ?_)
  simp only [word_Get.j0]
  refine ev_neg (by simp; omega) ?_
  by_cases hz : p = s.size
  · have e : wres s p = (0, 0, 7) := by unfold wres; rw [drop_end s (by omega)]; rfl
    rw [e]
    refine ev_pos (by omega) (ev_step ?_)
    simp only [word_Get.j1]
    exact ev_pos trivial ev_some
  obtain ⟨c, hc, hd, hbt⟩ := drop_some s (p := p) (by omega)
  have hc8 := u8_lt c
  have hm := wmore_le c.toNat hc8
  refine ev_neg (by omega) (ev_pos (by omega) (ev_pos (by omega) ?_))
  rw [hbt, w64 (x := (s.size : Int) - (p : Int)) (by omega) (by omega), w64 (by omega) (by omega)]
  refine ev_bind_now (more_eq _ hc8) (ev_step ?_)
  simp only [word_Get.j1]
  have hlen := drop_len s (p + 1)
  have hw : wparse ((L s).drop p) = if ((L s).drop (p + 1)).length < wmore c.toNat then (0, 0, 7) else if wput (wval c.toNat (val (((L s).drop (p + 1)).take (wmore c.toNat)))) = c :: ((L s).drop (p + 1)).take (wmore c.toNat) then (wval c.toNat (val (((L s).drop (p + 1)).take (wmore c.toNat))), 1 + wmore c.toNat, 0) else (0, 0, 3) := by rw [hd]; rfl
  by_cases hsh : s.size - p - 1 < wmore c.toNat
  · rw [if_pos (by omega)] at hw
    have e : wres s p = (0, 0, 7) := by unfold wres; rw [hw]; rfl
    rw [e]
    exact ev_pos (by simp; omega) ev_some
  refine ev_neg (by simp; omega) (ev_pos (by omega) (ev_pos (by omega) ?_))
  rw [if_neg (by omega)] at hw
  rw [hbt]
  refine ev_bind_now (more_eq _ hc8) ?_
  have hfin := wget_loop s p (wmore c.toNat) hm (by omega) hs (wres s p) ?_ _ 0 (Nat.zero_le _) rfl
  · exact hfin
  refine ev_step ?_
  simp only [word_Get.l0]
  refine ev_neg (by omega) (ev_pos (by omega) (ev_pos (by omega) ?_))
  have hv := val_take_le ((L s).drop (p + 1)) hm
  have hvl := wval_lt c.toNat (val (((L s).drop (p + 1)).take (wmore c.toNat))) hc8 (val_lt _ _ (by rw [List.length_take]; omega))
  have hl : ((L s).drop p).take (1 + wmore c.toNat) = c :: ((L s).drop (p + 1)).take (wmore c.toNat) := by rw [hd, Nat.add_comm, List.take_succ_cons]
  have hcl := wget_close s p (wmore c.toNat) _ hvl (by omega) hs _ hl
  have hres : wres s p = if wput (wval c.toNat (val (((L s).drop (p + 1)).take (wmore c.toNat)))) = c :: ((L s).drop (p + 1)).take (wmore c.toNat) then (((wval c.toNat (val (((L s).drop (p + 1)).take (wmore c.toNat))) : Nat) : Int), ((p + (1 + wmore c.toNat) : Nat) : Int), 0) else (0, 0, 3) := by
    unfold wres
    rw [hw]
    by_cases q : wput (wval c.toNat (val (((L s).drop (p + 1)).take (wmore c.toNat)))) = c :: ((L s).drop (p + 1)).take (wmore c.toNat)
    · rw [if_pos q, if_pos q]; rfl
    · rw [if_neg q, if_neg q]; rfl
  rw [hres]
  have h249 : wmore c.toNat = 1 → 241 ≤ c.toNat ∧ c.toNat ≤ 248 := by
    unfold wmore
    intro h
    by_cases q1 : c.toNat > 249
    · rw [if_pos q1] at h; omega
    · rw [if_neg q1] at h
      by_cases q2 : c.toNat = 249
      · rw [if_pos q2] at h; omega
      · rw [if_neg q2] at h
        by_cases q3 : c.toNat ≥ 241
        · omega
        · rw [if_neg q3] at h; omega
  by_cases k0 : wmore c.toNat = 0
  · refine ev_pos (by omega) ?_
    rw [hbt, u64_in (by omega) (by omega), show (c.toNat : Int) = ((wval c.toNat (val (((L s).drop (p + 1)).take (wmore c.toNat))) : Nat) : Int) by unfold wval; rw [if_pos k0]]
    exact hcl
  refine ev_neg (by omega) ?_
  by_cases k1 : wmore c.toNat = 1
  · refine ev_pos (by omega) ?_
    have h2 := h249 k1
    have hv1 : val (((L s).drop (p + 1)).take (wmore c.toNat)) < 256 := by
      have := val_lt 1 (((L s).drop (p + 1)).take (wmore c.toNat)) (by rw [List.length_take]; omega)
      simpa using this
    have ev : wval c.toNat (val (((L s).drop (p + 1)).take (wmore c.toNat))) = 240 + (c.toNat - 241) * 256 + val (((L s).drop (p + 1)).take (wmore c.toNat)) := by unfold wval; rw [if_neg k0, if_pos k1]
    rw [hbt, u64_in (by omega) (by omega), show ((val (((L s).drop (p + 1)).take (wmore c.toNat)) : Nat) : Int) + (240 + ((c.toNat : Int) - 241) % 256 * 256) = ((wval c.toNat (val (((L s).drop (p + 1)).take (wmore c.toNat))) : Nat) : Int) by rw [ev]; omega]
    exact hcl
  refine ev_neg (by omega) ?_
  by_cases k2 : wmore c.toNat = 2
  · refine ev_pos (by omega) ?_
    have hv1 : val (((L s).drop (p + 1)).take (wmore c.toNat)) < 65536 := by
      have := val_lt 2 (((L s).drop (p + 1)).take (wmore c.toNat)) (by rw [List.length_take]; omega)
      simpa using this
    have ev : wval c.toNat (val (((L s).drop (p + 1)).take (wmore c.toNat))) = 2288 + val (((L s).drop (p + 1)).take (wmore c.toNat)) := by unfold wval; rw [if_neg k0, if_neg k1, if_pos k2]
    rw [u64_in (by omega) (by omega), show ((val (((L s).drop (p + 1)).take (wmore c.toNat)) : Nat) : Int) + 2288 = ((wval c.toNat (val (((L s).drop (p + 1)).take (wmore c.toNat))) : Nat) : Int) by rw [ev]; omega]
    exact hcl
  · refine ev_neg (by omega) ?_
    have ev : wval c.toNat (val (((L s).drop (p + 1)).take (wmore c.toNat))) = val (((L s).drop (p + 1)).take (wmore c.toNat)) := by unfold wval; rw [if_neg k0, if_neg k1, if_neg k2]
    rw [ev] at hcl ⊢
    exact hcl
/-! ### numbers of eight bytes -/
def ires (s : ByteArray) (p : Nat) : Int × Int × Int := if s.size - p < 8 then (0, 0, 7) else ((val (((L s).drop p).take 8) : Int) - 9223372036854775808, ((p + 8 : Nat) : Int), 0)
theorem integer_ev (s : ByteArray) (p : Nat) (hp : p ≤ s.size) (hs : s.size ≤ 10000) : Ev (fun k => col_integer.f k s (p : Int)) (ires s p) := by
  unfold col_integer.f ires
  rw [w64 (x := (s.size : Int) - (p : Int)) (by omega) (by omega)]
  by_cases h : s.size - p < 8
  · rw [if_pos h]; exact ev_pos (by omega) ev_some
  rw [if_neg h]
  refine ev_neg (by omega) ?_
  have loop : ∀ (d i : Nat), i ≤ 8 → 8 - i = d → Ev (fun k => col_integer.l0 k s (p : Int) ((val (((L s).drop p).take i) : Nat) : Int) (i : Int)) ((val (((L s).drop p).take 8) : Int) - 9223372036854775808, ((p + 8 : Nat) : Int), 0) := by
    intro d
    induction d with
    | zero =>
      intro i hi hd
      obtain rfl : i = 8 := by omega
      refine ev_step ?_
      simp only [col_integer.l0]
      refine ev_neg (by omega) (ev_some' ?_)
      rw [unflip_eq _ (val_take_le _ (Nat.le_refl 8)), w64 (by omega) (by omega)]
      rfl
    | succ d ih =>
      intro i hi hd
      refine ev_step ?_
      simp only [col_integer.l0]
      obtain ⟨b, hb, hbt⟩ := drop_at s (p := p) (i := i) (by omega)
      have e : wrap64 ((p : Int) + (i : Int)) = ((p + i : Nat) : Int) := by rw [w64 (by omega) (by omega)]; omega
      rw [e, hbt, or_eq _ b (val_take_lt _ (by omega)), ← val_take hb, w64_succ (by omega)]
      exact ev_pos (by omega) (ev_pos (by omega) (ev_pos (by omega) (ih (i + 1) (by omega) (by omega))))
  exact loop _ 0 (by omega) rfl
/-! ### texts -/
def tres (acc : List UInt8) (p : Nat) (q : List UInt8 × Nat × Int) : ByteArray × Int × Int := if q.2.2 = 0 then (B (acc ++ q.1), ((p + q.2.1 : Nat) : Int), 0) else (⟨#[]⟩, 0, q.2.2)
theorem tres_cons (acc : List UInt8) (p k : Nat) (c : UInt8) (q : List UInt8 × Nat × Int) : tres acc p (tcons c k q) = tres (acc ++ [c]) (p + k) q := by
  unfold tres tcons
  by_cases h : q.2.2 = 0
  · rw [if_pos h, if_pos rfl, if_pos h]
    simp only [List.append_assoc, List.singleton_append]
    rw [show p + (q.2.1 + k) = p + k + q.2.1 by omega]
  · rw [if_neg h, if_neg h, if_neg h]
theorem text_loop (s : ByteArray) (hs : s.size ≤ 10000) : ∀ (n p : Nat) (acc : List UInt8), s.size - p ≤ n → p ≤ s.size → acc.length ≤ p → Ev (fun k => col_text.l0 k s (ns acc) (p : Int)) (tres acc p (tparse ((L s).drop p))) := by
  intro n
  induction n using Nat.strongRecOn with
  | _ n ih =>
    intro p acc hn hp ha
    refine ev_step ?_
    simp only [col_text.l0]
    by_cases hz : p = s.size
    · rw [drop_end s (by omega)]
      exact ev_neg (by omega) ev_some
    obtain ⟨c, hc, hd, hbt⟩ := drop_some s (p := p) (by omega)
    refine ev_pos (by omega) (ev_pos (by omega) ?_)
    rw [hbt, hd, w64_succ (by omega), ns_length]
    have hc8 := u8_lt c
    by_cases h0 : c = 0
    · subst h0
      refine ev_pos rfl ?_
      by_cases hz2 : p + 1 = s.size
      · rw [drop_end s (by omega)]
        exact ev_pos (by omega) ev_some
      obtain ⟨d, hd', hdd, hdbt⟩ := drop_some s (p := p + 1) (by omega)
      refine ev_neg (by omega) (ev_pos (by omega) (ev_pos (by omega) ?_))
      rw [hdbt, hdd, w64_succ (by omega)]
      have hd8 := u8_lt d
      by_cases h1 : d = 1
      · subst h1
        refine ev_pos rfl (ev_some' ?_)
        rw [str_ns, tparse_end]
        unfold tres
        rw [if_pos rfl, List.append_nil]
        rfl
      have h1' : d.toNat ≠ 1 := fun e => h1 (by rw [← UInt8.toNat_inj]; exact e)
      refine ev_neg (by omega) ?_
      by_cases h2 : d = 255
      · subst h2
        refine ev_pos rfl (ev_pos (by omega) ?_)
        rw [tparse_esc, tres_cons]
        have := ih (n - 2) (by omega) (p + 1 + 1) (acc ++ [0]) (by omega) (by omega) (by rw [List.length_append]; simp; omega)
        rw [ns_append] at this
        exact this
      · have h2' : d.toNat ≠ 255 := fun e => h2 (by rw [← UInt8.toNat_inj]; exact e)
        refine ev_neg (by omega) (ev_some' ?_)
        have e : tparse (0 :: d :: (L s).drop (p + 1 + 1)) = ([], 0, 3) := by
          show (if (0 : UInt8) = 0 then (if d = 1 then _ else if d = 255 then _ else _) else _) = _
          rw [if_pos rfl, if_neg h1, if_neg h2]
        rw [e]
        rfl
    · have h0' : c.toNat ≠ 0 := fun e => h0 (by rw [← UInt8.toNat_inj]; exact e)
      refine ev_neg (by omega) (ev_pos (by omega) ?_)
      rw [tparse_ne h0, tres_cons]
      have := ih (n - 1) (by omega) (p + 1) (acc ++ [c]) (by omega) (by omega) (by rw [List.length_append]; simp; omega)
      rw [ns_append] at this
      exact this
theorem text_ev (s : ByteArray) (p : Nat) (hp : p ≤ s.size) (hs : s.size ≤ 10000) : Ev (fun k => col_text.f k s (p : Int)) (tres [] p (tparse ((L s).drop p))) := by
  unfold col_text.f
  exact text_loop s hs _ p [] (Nat.le_refl _) hp (Nat.zero_le _)
/-! ### columns -/
def gres (p : Nat) (q : Cl × Nat × Int) : Int × Int × Int × ByteArray × Int × Int := if q.2.2 = 0 then (q.1.kd, q.1.i, q.1.u, B q.1.s, ((p + q.2.1 : Nat) : Int), 0) else (0, 0, 0, ⟨#[]⟩, 0, q.2.2)
def getV (s : ByteArray) (a : Int) : Int × Int × Int × ByteArray × Int × Int := if a < 0 ∨ a > (s.size : Int) then (0, 0, 0, ⟨#[]⟩, 0, 4) else gres a.toNat (cparse ((L s).drop a.toNat))
theorem kd_of (n m : Nat) (h : n < 256) (e : n / 16 = m + 1) : wrap64 ((wrap64 (Int.tdiv (n : Int) 16)) - 1) = (m : Int) := by
  have h1 : Int.tdiv (n : Int) 16 = ((m + 1 : Nat) : Int) := by rw [← e]; exact (Int.ofNat_tdiv n 16).symm
  rw [h1, w64 (x := ((m + 1 : Nat) : Int)) (by omega) (by omega), w64 (by omega) (by omega)]; omega
theorem cparse_no {c : UInt8} (r : List UInt8) (h1 : c.toNat ≠ 16) (h2 : c.toNat ≠ 32) (h3 : c.toNat ≠ 33) (h4 : c.toNat ≠ 48) (h5 : c.toNat ≠ 64) (h6 : c.toNat ≠ 80) : cparse (c :: r) = (zero, 0, 3) := by
  simp only [cparse]
  rw [if_neg (by rintro rfl; exact h1 rfl), if_neg (by rintro rfl; exact h2 rfl), if_neg (by rintro rfl; exact h3 rfl), if_neg (by rintro rfl; exact h4 rfl), if_neg (by rintro rfl; exact h5 rfl), if_neg (by rintro rfl; exact h6 rfl)]
theorem get_ev (s : ByteArray) (a : Int) (hs : s.size ≤ 10000) : Ev (fun k => col_Get.f k s a) (getV s a) := by
  unfold col_Get.f getV
  by_cases hn : a < 0
  · rw [if_pos (.inl hn)]
    refine ev_pos hn (ev_step ?_)
    simp only [col_Get.j0]
    exact ev_pos trivial ev_some
  refine ev_neg hn (ev_step ?_)
  simp only [col_Get.j0]
  obtain ⟨p, rfl⟩ := Int.eq_ofNat_of_zero_le (by omega : 0 ≤ a)
  by_cases hg : p > s.size
  · rw [if_pos (.inr (by omega))]
    exact ev_pos (decide_eq_true (by omega)) ev_some
  rw [if_neg (by omega), Int.toNat_natCast]
  refine ev_neg (by rw [decide_eq_false (by omega)]; decide) ?_
  by_cases hz : p = s.size
  · rw [drop_end s (by omega)]
    exact ev_pos (by omega) ev_some
  obtain ⟨c, hc, hd, hbt⟩ := drop_some s (p := p) (by omega)
  have hc8 := u8_lt c
  refine ev_neg (by omega) (ev_pos (by omega) (ev_pos (by omega) ?_))
  rw [hbt, w64 (x := (c.toNat : Int)) (by omega) (by omega), w64_succ (by omega), hd]
  by_cases c16 : c.toNat = 16
  · obtain rfl : c = 16 := by rw [← UInt8.toNat_inj]; exact c16
    refine ev_pos (by omega) (ev_some' ?_)
    rw [kd_of _ 0 hc8 (by omega)]
    rfl
  refine ev_neg (by omega) ?_
  by_cases c32 : c.toNat = 32
  · obtain rfl : c = 32 := by rw [← UInt8.toNat_inj]; exact c32
    refine ev_pos (by omega) (ev_step ?_)
    simp only [col_Get.j1]
    refine ev_pos (by simp) (ev_pos trivial (ev_some' ?_))
    rw [kd_of _ 1 hc8 (by omega)]
    rfl
  refine ev_neg (by omega) (ev_step ?_)
  simp only [col_Get.j1]
  by_cases c33 : c.toNat = 33
  · obtain rfl : c = 33 := by rw [← UInt8.toNat_inj]; exact c33
    refine ev_pos (by simp) (ev_pos trivial (ev_some' ?_))
    rw [kd_of _ 1 hc8 (by omega)]
    rfl
  refine ev_neg (by simp; omega) ?_
  by_cases c48 : c.toNat = 48
  · obtain rfl : c = 48 := by rw [← UInt8.toNat_inj]; exact c48
    have hlen := drop_len s (p + 1)
    have hi := integer_ev s (p + 1) (by omega) hs
    by_cases q : s.size - (p + 1) < 8
    · have e1 : ires s (p + 1) = (0, 0, 7) := by unfold ires; rw [if_pos q]
      have e2 : cparse (48 :: (L s).drop (p + 1)) = (zero, 0, 7) := by rw [cparse_48, if_pos (by omega)]
      rw [e1] at hi
      rw [e2]
      exact ev_pos (by omega) (ev_bind hi (ev_neg (by decide) ev_some))
    · have e1 : ires s (p + 1) = ((val (((L s).drop (p + 1)).take 8) : Int) - 9223372036854775808, ((p + 1 + 8 : Nat) : Int), 0) := by unfold ires; rw [if_neg q]
      have e2 : cparse (48 :: (L s).drop (p + 1)) = (⟨2, (val (((L s).drop (p + 1)).take 8) : Int) - 9223372036854775808, 0, []⟩, 9, 0) := by rw [cparse_48, if_neg (by omega)]
      rw [e1] at hi
      rw [e2]
      refine ev_pos (by omega) (ev_bind hi (ev_pos rfl (ev_some' ?_)))
      rw [kd_of _ 2 hc8 (by omega)]
      unfold gres
      rw [if_pos rfl, show p + 9 = p + 1 + 8 by omega]
      rfl
  refine ev_neg (by omega) ?_
  by_cases c64 : c.toNat = 64
  · obtain rfl : c = 64 := by rw [← UInt8.toNat_inj]; exact c64
    have hi := wget_ev s (p + 1) (by omega) hs
    by_cases q : (wparse ((L s).drop (p + 1))).2.2 = 0
    · have e1 : wres s (p + 1) = (((wparse ((L s).drop (p + 1))).1 : Int), ((p + 1 + (wparse ((L s).drop (p + 1))).2.1 : Nat) : Int), 0) := by unfold wres; rw [if_pos q]
      have e2 : cparse (64 :: (L s).drop (p + 1)) = (⟨3, 0, ((wparse ((L s).drop (p + 1))).1 : Int), []⟩, (wparse ((L s).drop (p + 1))).2.1 + 1, 0) := by rw [cparse_64, if_pos q]
      rw [e1] at hi
      rw [e2]
      refine ev_pos (by omega) (ev_bind hi (ev_pos rfl (ev_some' ?_)))
      rw [kd_of _ 3 hc8 (by omega)]
      unfold gres
      rw [if_pos rfl]
      simp only
      rw [show p + ((wparse ((L s).drop (p + 1))).2.1 + 1) = p + 1 + (wparse ((L s).drop (p + 1))).2.1 by omega]
      rfl
    · have e1 : wres s (p + 1) = (0, 0, (wparse ((L s).drop (p + 1))).2.2) := by unfold wres; rw [if_neg q]
      have e2 : cparse (64 :: (L s).drop (p + 1)) = (zero, 0, (wparse ((L s).drop (p + 1))).2.2) := by rw [cparse_64, if_neg q]
      rw [e1] at hi
      rw [e2]
      refine ev_pos (by omega) (ev_bind hi (ev_neg q (ev_some' ?_)))
      unfold gres
      rw [if_neg q]
  refine ev_neg (by omega) ?_
  by_cases c80 : c.toNat = 80
  · obtain rfl : c = 80 := by rw [← UInt8.toNat_inj]; exact c80
    have hi := text_ev s (p + 1) (by omega) hs
    by_cases q : (tparse ((L s).drop (p + 1))).2.2 = 0
    · have e1 : tres [] (p + 1) (tparse ((L s).drop (p + 1))) = (B (tparse ((L s).drop (p + 1))).1, ((p + 1 + (tparse ((L s).drop (p + 1))).2.1 : Nat) : Int), 0) := by unfold tres; rw [if_pos q]; rfl
      have e2 : cparse (80 :: (L s).drop (p + 1)) = (⟨4, 0, 0, (tparse ((L s).drop (p + 1))).1⟩, (tparse ((L s).drop (p + 1))).2.1 + 1, 0) := by rw [cparse_80, if_pos q]
      rw [e1] at hi
      rw [e2]
      refine ev_pos (by omega) (ev_bind hi (ev_pos rfl (ev_some' ?_)))
      rw [kd_of _ 4 hc8 (by omega)]
      unfold gres
      rw [if_pos rfl]
      simp only
      rw [show p + ((tparse ((L s).drop (p + 1))).2.1 + 1) = p + 1 + (tparse ((L s).drop (p + 1))).2.1 by omega]
      rfl
    · have e1 : tres [] (p + 1) (tparse ((L s).drop (p + 1))) = (⟨#[]⟩, 0, (tparse ((L s).drop (p + 1))).2.2) := by unfold tres; rw [if_neg q]
      have e2 : cparse (80 :: (L s).drop (p + 1)) = (zero, 0, (tparse ((L s).drop (p + 1))).2.2) := by rw [cparse_80, if_neg q]
      rw [e1] at hi
      rw [e2]
      refine ev_pos (by omega) (ev_bind hi (ev_neg q (ev_some' ?_)))
      unfold gres
      rw [if_neg q]
  · refine ev_neg (by omega) (ev_some' ?_)
    rw [cparse_no _ c16 c32 c33 c48 c64 c80]
    rfl
end Go.Proofs.YtjfgeppfkhaliaaDoor.Spec
