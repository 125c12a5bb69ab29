/- What is proved here: what opening of a page answers, in the program. Conditions: sizes within the form's reach. -/
import Derived.Test.YtggfnlnonigkiaaGreatDoorHSeal
set_option linter.unusedVariables false
set_option linter.unusedSimpArgs false
namespace Go.Proofs.YtggfnlnonigkiaaGreatDoor.HSpec
open Go.RowKit Go.Proofs.YtggfnlnonigkiaaGreatDoorW.PrintWords Go.Proofs.YtggfnlnonigkiaaGreatDoorW.PrintLast Go.Proofs.YtggfnlnonigkiaaGreatDoorW.PrintMore Go.Proofs.YtggfnlnonigkiaaGreatDoorEv Go.Proofs.YtggfnlnonigkiaaGreatDoorSum Go.Proofs.YtggfnlnonigkiaaGreatDoorHead Go.Proofs.YtggfnlnonigkiaaGreatDoor.P
theorem bt_getD (s : ByteArray) (i : Nat) : bt s (i : Int) = (((L s).getD i 0).toNat : Int) := by
  rcases Nat.lt_or_ge i (L s).length with h | h
  · rw [bt_L s i h, List.getD_eq_getElem?_getD, List.getElem?_eq_getElem h]
    rfl
  · have hl := L_length s
    unfold bt
    rw [dif_neg (by rw [Int.toNat_natCast]; omega), List.getD_eq_getElem?_getD, List.getElem?_eq_none h]
    rfl
theorem or_at (x b e : Nat) (hx : x < 2 ^ e) (hb : b < 256) (he : e ≤ 24) : Go.bits .or .u32 (x : Int) (shl .u32 ((b : Int) % 4294967296) (e : Int)) = ((x + b * 2 ^ e : Nat) : Int) := by
  have hp : 2 ^ e ≤ 2 ^ 24 := Nat.pow_le_pow_right (by omega) he
  have hm : b * 2 ^ e ≤ 255 * 2 ^ 24 := Nat.mul_le_mul (by omega) hp
  have hw : shl .u32 ((b : Int) % 4294967296) (e : Int) = ((b * 2 ^ e : Nat) : Int) := by
    unfold shl
    have hb32 : IntKind.u32.bits = 32 := rfl
    rw [IntKind.wrap_u32', Int.toNat_natCast, hb32, Nat.min_eq_left (by omega), show (b : Int) % 4294967296 = (b : Int) by omega]
    have e1 : (b : Int) * 2 ^ e = ((b * 2 ^ e : Nat) : Int) := by rw [Int.natCast_mul, Int.natCast_pow]; rfl
    rw [e1]
    omega
  rw [hw, u32_or_nat _ _ (by omega) (by omega)]
  have := Nat.two_pow_add_eq_or_of_lt hx b
  rw [Nat.mul_comm b, Nat.or_comm, ← this]
  exact congrArg _ (Nat.add_comm _ _)
theorem getD_drop (l : List UInt8) (i j : Nat) : (l.drop i).getD j 0 = l.getD (i + j) 0 := by simp [List.getD_eq_getElem?_getD, List.getElem?_drop]
theorem read_ev (s : ByteArray) (i : Nat) (h : i + 4 ≤ s.size) (hs : s.size ≤ 140737488300000) : Ev (fun k => word_Read.f k s (i : Int)) ((rd4 ((L s).drop i) : Int), 0) := by
  have hl := L_length s
  unfold word_Read.f
  refine ev_neg (by omega) (ev_step ?_)
  simp only [word_Read.j0]
  refine ev_neg (by simp; omega) (ev_neg (by rw [w64 (by omega) (by omega)]; omega) ?_)
  have b0 := u8_lt ((L s).getD i 0)
  have b1 := u8_lt ((L s).getD (i + 1) 0)
  have b2 := u8_lt ((L s).getD (i + 2) 0)
  have b3 := u8_lt ((L s).getD (i + 3) 0)
  refine ev_step ?_
  simp only [word_Read.l0]
  rw [show wrap64 ((i : Int) + 0) = (i : Int) by rw [w64 (by omega) (by omega)]; omega, show wrap64 (8 * 0) = ((0 : Nat) : Int) by unfold wrap64; omega, bt_getD, show (0 : Int) = ((0 : Nat) : Int) from rfl, or_at 0 _ 0 (by omega) b0 (by omega)]
  refine ev_pos (by omega) (ev_pos (by omega) (ev_pos (by omega) (ev_pos (by omega) (ev_step ?_))))
  simp only [word_Read.l0]
  rw [show wrap64 ((i : Int) + wrap64 (((0 : Nat) : Int) + 1)) = ((i + 1 : Nat) : Int) by rw [w64 (x := ((0 : Nat) : Int) + 1) (by omega) (by omega), w64 (by omega) (by omega)]; omega, show wrap64 (8 * wrap64 (((0 : Nat) : Int) + 1)) = ((8 : Nat) : Int) by unfold wrap64; omega, bt_getD, or_at _ _ 8 (by omega) b1 (by omega)]
  refine ev_pos (by unfold wrap64; omega) (ev_pos (by omega) (ev_pos (by omega) (ev_pos (by omega) (ev_step ?_))))
  simp only [word_Read.l0]
  rw [show wrap64 (wrap64 (((0 : Nat) : Int) + 1) + 1) = 2 by unfold wrap64; omega, show wrap64 ((i : Int) + 2) = ((i + 2 : Nat) : Int) by rw [w64 (by omega) (by omega)]; omega, show wrap64 (8 * 2) = ((16 : Nat) : Int) by unfold wrap64; omega, bt_getD, or_at _ _ 16 (by omega) b2 (by omega)]
  refine ev_pos (by omega) (ev_pos (by omega) (ev_pos (by omega) (ev_pos (by omega) (ev_step ?_))))
  simp only [word_Read.l0]
  rw [show wrap64 (2 + 1) = 3 by unfold wrap64; omega, show wrap64 ((i : Int) + 3) = ((i + 3 : Nat) : Int) by rw [w64 (by omega) (by omega)]; omega, show wrap64 (8 * 3) = ((24 : Nat) : Int) by unfold wrap64; omega, bt_getD, or_at _ _ 24 (by omega) b3 (by omega)]
  refine ev_pos (by omega) (ev_pos (by omega) (ev_pos (by omega) (ev_pos (by omega) (ev_step ?_))))
  simp only [word_Read.l0]
  refine ev_neg (by unfold wrap64; omega) (ev_some' ?_)
  unfold rd4
  rw [getD_drop, getD_drop, getD_drop, getD_drop]
  refine Prod.ext ?_ rfl
  simp only [Nat.add_zero]
  omega
def none' : Opened := (0, 0, 0, 0, 0, ⟨#[]⟩, 3)
def told (x : Hd) (b : ByteArray) : Opened := (x.k, x.l, x.c, x.r, x.s, b, 0)
def body (s : ByteArray) : ByteArray := s.extract 16 s.size
def isPage (s : ByteArray) : Prop := Size s.size ∧ (got (L s)).ok ∧ page (got (L s)) (L (body s)) s.size = L s
instance (s : ByteArray) : Decidable (isPage s) := by
  unfold isPage Size Hd.ok
  infer_instance
def opened (s : ByteArray) : Opened := if isPage s then told (got (L s)) (body s) else none'
theorem body_L (s : ByteArray) : L (body s) = (L s).drop 16 := L_from s 16
theorem body_size {s : ByteArray} (h : 16 ≤ s.size) : (body s).size + 16 = s.size := by unfold body; rw [size_extract]; omega
theorem opened_page {s : ByteArray} (h : isPage s) : opened s = told (got (L s)) (body s) := if_pos h
theorem opened_none {s : ByteArray} (h : ¬ isPage s) : opened s = none' := if_neg h
theorem size16 {n : Nat} (h : Size n) : 128 ≤ n ∧ n ≤ 1024 := by unfold Size at h; omega
/-- What is sealed of what is read is the page, just if it is one. -/
theorem sealed_got {s : ByteArray} (hs : Size s.size) : (isPage s ∧ sealed (got (L s)).k (got (L s)).l (got (L s)).c (got (L s)).r (got (L s)).s (body s) s.size = (s, 0)) ∨
    (¬ isPage s ∧ ((sealed (got (L s)).k (got (L s)).l (got (L s)).c (got (L s)).r (got (L s)).s (body s) s.size).2 ≠ 0 ∨ L (sealed (got (L s)).k (got (L s)).l (got (L s)).c (got (L s)).r (got (L s)).s (body s) s.size).1 ≠ L s)) := by
  have h16 := size16 hs
  have hb := body_size (s := s) (by omega)
  by_cases ok : (got (L s)).ok
  · rw [sealed_of ok hs (by omega)]
    by_cases hp : page (got (L s)) (L (body s)) s.size = L s
    · refine .inl ⟨⟨hs, ok, hp⟩, Prod.ext (L_inj ?_) rfl⟩
      rw [pageB_L, hp]
    · refine .inr ⟨fun h => hp h.2.2, .inr ?_⟩
      rw [pageB_L]
      exact hp
  · refine .inr ⟨fun h => ok h.2.1, .inl ?_⟩
    unfold sealed
    by_cases hc : head_may.code (got (L s)).k (got (L s)).l (got (L s)).c (got (L s)).r (got (L s)).s (body s) s.size = 0
    · exfalso
      obtain ⟨x, P, ok', e1, e2, e3, e4, e5, _⟩ := code_zero hc
      apply ok
      unfold Hd.ok at ok' ⊢
      omega
    · rw [if_neg hc]
      exact hc
theorem open_ev (s : ByteArray) (hsz : s.size ≤ 140737488300000) : Ev (fun k => head_Open.f k s) (opened s) := by
  have hl := L_length s
  unfold head_Open.f
  have hds : disk_Size.f (s.size : Int) = some (head_may.sized (s.size : Int)) := rfl
  refine ev_bind_now hds ?_
  by_cases h1 : head_may.sized (s.size : Int) = true
  · have h1' := (sized_iff _).1 h1
    have hs : Size s.size := by unfold Size; omega
    have h16 := size16 hs
    refine ev_pos h1 (ev_bind (read_ev s 4 (by omega) (by omega)) (ev_bind (read_ev s 8 (by omega) (by omega)) (ev_pos (by omega) (ev_pos (by omega) (ev_pos (by omega) (ev_pos (by omega) (ev_pos (by omega) ?_)))))))
    have b0 := u8_lt ((L s).getD 0 0)
    have b1 := u8_lt ((L s).getD 1 0)
    have b2 := u8_lt ((L s).getD 2 0)
    have b3 := u8_lt ((L s).getD 3 0)
    have hr : ∀ l : List UInt8, rd4 l < 4294967296 := fun l => by
      have q0 := u8_lt (l.getD 0 0)
      have q1 := u8_lt (l.getD 1 0)
      have q2 := u8_lt (l.getD 2 0)
      have q3 := u8_lt (l.getD 3 0)
      unfold rd4
      omega
    have hr4 := hr ((L s).drop 4)
    have hr8 := hr ((L s).drop 8)
    have t0 : bt s 0 = _ := bt_getD s 0
    have t1 : bt s 1 = _ := bt_getD s 1
    have t2 : bt s 2 = _ := bt_getD s 2
    have t3 : bt s 3 = _ := bt_getD s 3
    rw [t0, t1, t2, t3, w64 (x := (((L s).getD 0 0).toNat : Int)) (by omega) (by omega), w64 (x := (((L s).getD 1 0).toNat : Int)) (by omega) (by omega), w64 (x := (((L s).getD 2 0).toNat : Int)) (by omega) (by omega), w64 (x := (((L s).getD 3 0).toNat : Int)) (by omega) (by omega), w64 (x := 256 * (((L s).getD 3 0).toNat : Int)) (by omega) (by omega), w64 (x := (((L s).getD 2 0).toNat : Int) + 256 * (((L s).getD 3 0).toNat : Int)) (by omega) (by omega), w64 (x := (rd4 ((L s).drop 4) : Int)) (by omega) (by omega), w64 (x := (rd4 ((L s).drop 8) : Int)) (by omega) (by omega)]
    have ec : (((L s).getD 2 0).toNat : Int) + 256 * (((L s).getD 3 0).toNat : Int) = ((got (L s)).c : Int) := by
      show _ = ((((L s).getD 2 0).toNat + 256 * ((L s).getD 3 0).toNat : Nat) : Int)
      omega
    rw [ec]
    refine ev_bind (seal_ev (got (L s)).k (got (L s)).l (got (L s)).c (got (L s)).r (got (L s)).s (body s) s.size) ?_
    rcases sealed_got hs with ⟨hp, e⟩ | ⟨hp, e⟩
    · rw [e, opened_page hp]
      exact ev_pos rfl (ev_pos rfl (ev_some' rfl))
    · rw [opened_none hp]
      by_cases h2 : (sealed (got (L s)).k (got (L s)).l (got (L s)).c (got (L s)).r (got (L s)).s (body s) s.size).2 = 0
      · rcases e with e | e
        · exact absurd h2 e
        · exact ev_pos h2 (ev_neg (by rw [L_toList, L_toList]; exact e) (ev_some' rfl))
      · exact ev_neg h2 (ev_some' rfl)
  · rw [opened_none (fun h => h1 ((sized_iff _).2 (by have := h.1; unfold Size at this; omega)))]
    exact ev_neg h1 (ev_some' rfl)
/-- A page is opened as it was sealed. -/
theorem isPage_of {x : Hd} (ok : x.ok) {b : List UInt8} {P : Nat} (hP : Size P) (hb : b.length + 16 ≤ P) : isPage (pageB x b P) := by
  have hz := pageB_size (h := x) hb
  refine ⟨by rw [hz]; exact hP, ?_, ?_⟩
  · rw [pageB_L, got_page ok]
    exact ok
  · rw [body_L, pageB_L, got_page ok, page_drop, hz]
    exact page_of_rest (rest_rest hb)
theorem opened_of {x : Hd} (ok : x.ok) {b : List UInt8} {P : Nat} (hP : Size P) (hb : b.length + 16 ≤ P) : opened (pageB x b P) = told x ⟨(rest b P).toArray⟩ := by
  rw [opened_page (isPage_of ok hP hb), pageB_L, got_page ok]
  refine congrArg (told x) (L_inj ?_)
  rw [body_L, pageB_L, page_drop, L_mk]
theorem right_ev (a0 a1 a2 a3 a4 : Int) : Ev (fun k => head_Right.f k a0 a1 a2 a3 a4) (head_may.right a0 a1 a2 a3 a4) := Ev.of (head_Right.mono a0 a1 a2 a3 a4) (right_eq a0 a1 a2 a3 a4)
end Go.Proofs.YtggfnlnonigkiaaGreatDoor.HSpec
