/- What is proved here: what sealing and opening of a page answer, in the program and in its reference. Conditions: sizes within the form's reach. -/
import Derived.Test.YtnfnmjjdcaphjaaSpec
set_option linter.unusedVariables false
set_option linter.unusedSimpArgs false
namespace Go.Proofs.Ytnfnmjjdcaphjaa.Spec
open Go.RowKit Go.Proofs.YtnfnmjjdcaphjaaW.PrintWords Go.Proofs.YtnfnmjjdcaphjaaW.PrintLast Go.Proofs.YtnfnmjjdcaphjaaW.PrintMore Go.Proofs.YtnfnmjjdcaphjaaEv Go.Proofs.YtnfnmjjdcaphjaaSum Go.Proofs.YtnfnmjjdcaphjaaHead Go.Proofs.Ytnfnmjjdcaphjaa.P

def Size (p : Nat) : Prop := p = 128 ∨ p = 256 ∨ p = 512 ∨ p = 1024
def hdOf (a0 a1 a2 a3 a4 : Int) : Hd := ⟨a0.toNat, a1.toNat, a2.toNat, a3.toNat, a4.toNat⟩
def sealed (a0 a1 a2 a3 a4 : Int) (b : ByteArray) (p : Int) : ByteArray × Int := if head_may.code a0 a1 a2 a3 a4 b p = 0 then (pageB (hdOf a0 a1 a2 a3 a4) (L b) p.toNat, 0) else (⟨#[]⟩, head_may.code a0 a1 a2 a3 a4 b p)
theorem sized_iff (p : Int) : head_may.sized p = true ↔ p = 128 ∨ p = 256 ∨ p = 512 ∨ p = 1024 := by simp [head_may.sized, or_assoc]
theorem right_iff (a0 a1 a2 a3 a4 : Int) : head_may.right a0 a1 a2 a3 a4 = true ↔ 1 ≤ a0 ∧ a0 < 5 ∧ 0 ≤ a1 ∧ a1 < 256 ∧ 0 ≤ a2 ∧ a2 < 65536 ∧ 0 ≤ a3 ∧ a3 < 4096 ∧ 0 ≤ a4 ∧ a4 < 4096 := by
  simp [head_may.right, and_assoc]
theorem code_zero {a0 a1 a2 a3 a4 : Int} {b : ByteArray} {p : Int} (h : head_may.code a0 a1 a2 a3 a4 b p = 0) : ∃ (x : Hd) (P : Nat), x.ok ∧ a0 = x.k ∧ a1 = x.l ∧ a2 = x.c ∧ a3 = x.r ∧ a4 = x.s ∧ p = P ∧ Size P ∧ b.size + 16 ≤ P := by
  unfold head_may.code at h
  by_cases h1 : head_may.sized p = true
  · rw [if_pos h1] at h
    by_cases h2 : head_may.right a0 a1 a2 a3 a4 = true
    · rw [if_pos h2] at h
      by_cases h3 : p - 16 < (b.size : Int)
      · rw [if_pos h3] at h; cases h
      · have h1' := (sized_iff p).1 h1
        have h2' := (right_iff _ _ _ _ _).1 h2
        refine ⟨hdOf a0 a1 a2 a3 a4, p.toNat, ?_, ?_, ?_, ?_, ?_, ?_, ?_, ?_, ?_⟩
        · unfold Hd.ok hdOf; simp only; omega
        · show a0 = ((a0.toNat : Nat) : Int); omega
        · show a1 = ((a1.toNat : Nat) : Int); omega
        · show a2 = ((a2.toNat : Nat) : Int); omega
        · show a3 = ((a3.toNat : Nat) : Int); omega
        · show a4 = ((a4.toNat : Nat) : Int); omega
        · omega
        · unfold Size; omega
        · omega
    · rw [if_neg h2] at h; cases h
  · rw [if_neg h1] at h; cases h
theorem code_of {x : Hd} (ok : x.ok) {b : ByteArray} {P : Nat} (hP : Size P) (hb : b.size + 16 ≤ P) : head_may.code x.k x.l x.c x.r x.s b P = 0 := by
  obtain ⟨h1, h2, h3, h4, h5, h6⟩ := ok
  unfold Size at hP
  unfold head_may.code
  rw [if_pos ((sized_iff _).2 (by omega)), if_pos ((right_iff _ _ _ _ _).2 (by omega)), if_neg (by omega)]
theorem hdOf_cast (x : Hd) : hdOf x.k x.l x.c x.r x.s = x := by cases x; simp [hdOf]
theorem sealed_of {x : Hd} (ok : x.ok) {b : ByteArray} {P : Nat} (hP : Size P) (hb : b.size + 16 ≤ P) : sealed x.k x.l x.c x.r x.s b P = (pageB x (L b) P, 0) := by
  unfold sealed
  rw [if_pos (code_of ok hP hb), hdOf_cast]
  rfl
theorem sealed_not {a0 a1 a2 a3 a4 : Int} {b : ByteArray} {p : Int} (h : ¬ head_may.code a0 a1 a2 a3 a4 b p = 0) : sealed a0 a1 a2 a3 a4 b p = (⟨#[]⟩, head_may.code a0 a1 a2 a3 a4 b p) := if_neg h

def headB (x : Hd) : ByteArray := ⟨(front x).toArray⟩
theorem headB_L (x : Hd) : L (headB x) = front x := L_mk _
theorem headB_size (x : Hd) : (headB x).size = 12 := size_mk _
theorem front_four (x : Hd) : (strOfNums [(x.k : Int) % 256, (x.l : Int) % 256, (x.c : Int) % 256, ((x.c / 256 : Nat) : Int) % 256] ++ fourB x.r) ++ fourB x.s = headB x := by
  refine L_inj ?_
  rw [headB_L, L_append, L_append, fourB_L, fourB_L]
  show (strOfNums _).data.toList ++ _ ++ _ = _
  rw [strOfNums_data]
  simp only [List.map_cons, List.map_nil, front]
  rw [show ((x.k : Int) % 256).toNat = x.k % 256 by omega, show ((x.l : Int) % 256).toNat = x.l % 256 by omega, show ((x.c : Int) % 256).toNat = x.c % 256 by omega, show (((x.c / 256 : Nat) : Int) % 256).toNat = (x.c / 256) % 256 by omega, ofNat_mod, ofNat_mod, ofNat_mod, ofNat_mod]
theorem size4 (a b c d : Int) : (strOfNums [a, b, c, d]).size = 4 := strOfNums_size _
theorem z4_size : (⟨#[0, 0, 0, 0]⟩ : ByteArray).size = 4 := rfl
theorem seal_ev (a0 a1 a2 a3 a4 : Int) (b : ByteArray) (p : Int) : Ev (fun k => head_Seal.f k a0 a1 a2 a3 a4 b p) (sealed a0 a1 a2 a3 a4 b p) := by
  unfold head_Seal.f
  by_cases hc : head_may.code a0 a1 a2 a3 a4 b p = 0
  · obtain ⟨x, P, ok, rfl, rfl, rfl, rfl, rfl, rfl, hP, hb⟩ := code_zero hc
    rw [sealed_of ok hP hb]
    obtain ⟨o1, o2, o3, o4, o5, o6⟩ := ok
    unfold Size at hP
    refine ev_bind_now (show head_may.f _ _ _ _ _ _ _ = some 0 from congrArg some hc) (ev_pos rfl ?_)
    rw [Int.tdiv_eq_ediv_of_nonneg (by omega), show (x.c : Int) / 256 = ((x.c / 256 : Nat) : Int) by omega, w64 (x := ((x.c / 256 : Nat) : Int)) (by omega) (by omega), show (x.r : Int) % 4294967296 = (x.r : Int) by omega, show (x.s : Int) % 4294967296 = (x.s : Int) by omega]
    refine ev_bind (bytes_ev _ _ _ _) (ev_bind_now (four_eq _) (ev_pos (by rw [size4, fourB_size]; omega) (ev_bind_now (four_eq _) (ev_pos (by rw [ByteArray.size_append, size4, fourB_size, fourB_size]; omega) ?_))))
    rw [front_four]
    have hs := headB_size x
    refine ev_pos (by omega) (ev_pos (by rw [ByteArray.size_append, hs, z4_size]; omega) ?_)
    have hs2 : ((headB x ++ (⟨#[0, 0, 0, 0]⟩ : ByteArray)) ++ b).size = 16 + b.size := by rw [ByteArray.size_append, ByteArray.size_append, hs, z4_size]
    rw [hs2, w64 (by omega) (by omega), show (P : Int) - ((16 + b.size : Nat) : Int) = ((P - 16 - b.size : Nat) : Int) by omega]
    refine ev_bind_now (repeat_eq _ (by omega)) ?_
    have hs3 : (((headB x ++ (⟨#[0, 0, 0, 0]⟩ : ByteArray)) ++ b) ++ zerosB (P - 16 - b.size)).size = P := by rw [ByteArray.size_append, hs2, zerosB_size]; omega
    have hL : L (((headB x ++ (⟨#[0, 0, 0, 0]⟩ : ByteArray)) ++ b) ++ zerosB (P - 16 - b.size)) = front x ++ [0, 0, 0, 0] ++ rest (L b) P := by
      rw [L_append, L_append, L_append, headB_L, zerosB_L, rest, L_length, List.append_assoc, List.append_assoc]
    refine ev_pos (by rw [zerosB_size]; omega) (ev_pos (by omega) (ev_pos (by rw [hs3]; omega) (ev_bind_now (sum_eq _ (by rw [hs3]; omega)) (ev_bind_now (four_eq _) ?_))))
    have hf := front_length x
    have e12 : L ((((headB x ++ (⟨#[0, 0, 0, 0]⟩ : ByteArray)) ++ b) ++ zerosB (P - 16 - b.size)).extract 0 12) = front x := by
      rw [L_to, hL, List.append_assoc, List.take_left' hf]
    have e16 : L ((((headB x ++ (⟨#[0, 0, 0, 0]⟩ : ByteArray)) ++ b) ++ zerosB (P - 16 - b.size)).extract 16 (((headB x ++ (⟨#[0, 0, 0, 0]⟩ : ByteArray)) ++ b) ++ zerosB (P - 16 - b.size)).size) = rest (L b) P := by
      rw [L_from, hL, List.drop_left' (by simp [hf])]
    have z12 := L_length ((((headB x ++ (⟨#[0, 0, 0, 0]⟩ : ByteArray)) ++ b) ++ zerosB (P - 16 - b.size)).extract 0 12)
    have z16 := L_length ((((headB x ++ (⟨#[0, 0, 0, 0]⟩ : ByteArray)) ++ b) ++ zerosB (P - 16 - b.size)).extract 16 (((headB x ++ (⟨#[0, 0, 0, 0]⟩ : ByteArray)) ++ b) ++ zerosB (P - 16 - b.size)).size)
    rw [e12] at z12
    rw [e16, rest_length (by rw [L_length]; omega)] at z16
    refine ev_pos (by rw [fourB_size]; omega) (ev_pos (by rw [hs3]; omega) (ev_pos (by rw [ByteArray.size_append, fourB_size]; omega) (ev_some' ?_)))
    refine Prod.ext (L_inj ?_) rfl
    rw [L_append, L_append, e12, e16, fourB_L, hL, pageB_L]
    rfl
  · rw [sealed_not hc]
    exact ev_bind_now rfl (ev_neg hc ev_some)
end Go.Proofs.Ytnfnmjjdcaphjaa.Spec
namespace Go.Proofs.Ytnfnmjjdcaphjaa.Spec
open Go.RowKit Go.Proofs.YtnfnmjjdcaphjaaW.PrintWords Go.Proofs.YtnfnmjjdcaphjaaW.PrintLast Go.Proofs.YtnfnmjjdcaphjaaW.PrintMore Go.Proofs.YtnfnmjjdcaphjaaEv Go.Proofs.YtnfnmjjdcaphjaaSum Go.Proofs.YtnfnmjjdcaphjaaHead Go.Proofs.Ytnfnmjjdcaphjaa.P

abbrev Opened := Int × Int × Int × Int × Int × ByteArray × Int
def none' : Opened := (0, 0, 0, 0, 0, ⟨#[]⟩, 3)
def told (x : Hd) (b : ByteArray) : Opened := (x.k, x.l, x.c, x.r, x.s, b, 0)
def body (s : ByteArray) : ByteArray := s.extract 16 s.size
def isPage (s : ByteArray) : Prop := Size s.size ∧ (got (L s)).ok ∧ page (got (L s)) (L (body s)) s.size = L s
instance (s : ByteArray) : Decidable (isPage s) := by
  unfold isPage Size Hd.ok
  infer_instance
def opened (s : ByteArray) : Opened := if isPage s then told (got (L s)) (body s) else none'
theorem body_L (s : ByteArray) : L (body s) = (L s).drop 16 := L_from s 16
theorem body_size {s : ByteArray} (h : 16 ≤ s.size) : (body s).size + 16 = s.size := by unfold body; rw [size_extract]; omega
theorem opened_page {s : ByteArray} (h : isPage s) : opened s = told (got (L s)) (body s) := if_pos h
theorem opened_none {s : ByteArray} (h : ¬ isPage s) : opened s = none' := if_neg h
theorem size16 {n : Nat} (h : Size n) : 128 ≤ n ∧ n ≤ 1024 := by unfold Size at h; omega
/-- What is sealed of what is read is the page, just if it is one. -/
theorem sealed_got {s : ByteArray} (hs : Size s.size) : (isPage s ∧ sealed (got (L s)).k (got (L s)).l (got (L s)).c (got (L s)).r (got (L s)).s (body s) s.size = (s, 0)) ∨
    (¬ isPage s ∧ ((sealed (got (L s)).k (got (L s)).l (got (L s)).c (got (L s)).r (got (L s)).s (body s) s.size).2 ≠ 0 ∨ L (sealed (got (L s)).k (got (L s)).l (got (L s)).c (got (L s)).r (got (L s)).s (body s) s.size).1 ≠ L s)) := by
  have h16 := size16 hs
  have hb := body_size (s := s) (by omega)
  by_cases ok : (got (L s)).ok
  · rw [sealed_of ok hs (by omega)]
    by_cases hp : page (got (L s)) (L (body s)) s.size = L s
    · refine .inl ⟨⟨hs, ok, hp⟩, Prod.ext (L_inj ?_) rfl⟩
      rw [pageB_L, hp]
    · refine .inr ⟨fun h => hp h.2.2, .inr ?_⟩
      rw [pageB_L]
      exact hp
  · refine .inr ⟨fun h => ok h.2.1, .inl ?_⟩
    unfold sealed
    by_cases hc : head_may.code (got (L s)).k (got (L s)).l (got (L s)).c (got (L s)).r (got (L s)).s (body s) s.size = 0
    · exfalso
      obtain ⟨x, P, ok', e1, e2, e3, e4, e5, _⟩ := code_zero hc
      apply ok
      unfold Hd.ok at ok' ⊢
      omega
    · rw [if_neg hc]
      exact hc
theorem open_ev (s : ByteArray) (hsz : s.size ≤ 140737488300000) : Ev (fun k => head_Open.f k s) (opened s) := by
  have hl := L_length s
  unfold head_Open.f
  have hds : disk_Size.f (s.size : Int) = some (head_may.sized (s.size : Int)) := rfl
  refine ev_bind_now hds ?_
  by_cases h1 : head_may.sized (s.size : Int) = true
  · have h1' := (sized_iff _).1 h1
    have hs : Size s.size := by unfold Size; omega
    have h16 := size16 hs
    refine ev_pos h1 (ev_bind (read_ev s 4 (by omega) (by omega)) (ev_bind (read_ev s 8 (by omega) (by omega)) (ev_pos (by omega) (ev_pos (by omega) (ev_pos (by omega) (ev_pos (by omega) (ev_pos (by omega) ?_)))))))
    have b0 := u8_lt ((L s).getD 0 0)
    have b1 := u8_lt ((L s).getD 1 0)
    have b2 := u8_lt ((L s).getD 2 0)
    have b3 := u8_lt ((L s).getD 3 0)
    have hr : ∀ l : List UInt8, rd4 l < 4294967296 := fun l => by
      have q0 := u8_lt (l.getD 0 0)
      have q1 := u8_lt (l.getD 1 0)
      have q2 := u8_lt (l.getD 2 0)
      have q3 := u8_lt (l.getD 3 0)
      unfold rd4
      omega
    have hr4 := hr ((L s).drop 4)
    have hr8 := hr ((L s).drop 8)
    have t0 : bt s 0 = _ := bt_getD s 0
    have t1 : bt s 1 = _ := bt_getD s 1
    have t2 : bt s 2 = _ := bt_getD s 2
    have t3 : bt s 3 = _ := bt_getD s 3
    rw [t0, t1, t2, t3, w64 (x := (((L s).getD 0 0).toNat : Int)) (by omega) (by omega), w64 (x := (((L s).getD 1 0).toNat : Int)) (by omega) (by omega), w64 (x := (((L s).getD 2 0).toNat : Int)) (by omega) (by omega), w64 (x := (((L s).getD 3 0).toNat : Int)) (by omega) (by omega), w64 (x := 256 * (((L s).getD 3 0).toNat : Int)) (by omega) (by omega), w64 (x := (((L s).getD 2 0).toNat : Int) + 256 * (((L s).getD 3 0).toNat : Int)) (by omega) (by omega), w64 (x := (rd4 ((L s).drop 4) : Int)) (by omega) (by omega), w64 (x := (rd4 ((L s).drop 8) : Int)) (by omega) (by omega)]
    have ec : (((L s).getD 2 0).toNat : Int) + 256 * (((L s).getD 3 0).toNat : Int) = ((got (L s)).c : Int) := by
      show _ = ((((L s).getD 2 0).toNat + 256 * ((L s).getD 3 0).toNat : Nat) : Int)
      omega
    rw [ec]
    refine ev_bind (seal_ev (got (L s)).k (got (L s)).l (got (L s)).c (got (L s)).r (got (L s)).s (body s) s.size) ?_
    rcases sealed_got hs with ⟨hp, e⟩ | ⟨hp, e⟩
    · rw [e, opened_page hp]
      exact ev_pos rfl (ev_pos rfl (ev_some' rfl))
    · rw [opened_none hp]
      by_cases h2 : (sealed (got (L s)).k (got (L s)).l (got (L s)).c (got (L s)).r (got (L s)).s (body s) s.size).2 = 0
      · rcases e with e | e
        · exact absurd h2 e
        · exact ev_pos h2 (ev_neg (by rw [L_toList, L_toList]; exact e) (ev_some' rfl))
      · exact ev_neg h2 (ev_some' rfl)
  · rw [opened_none (fun h => h1 ((sized_iff _).2 (by have := h.1; unfold Size at this; omega)))]
    exact ev_neg h1 (ev_some' rfl)
/-- A page is opened as it was sealed. -/
theorem isPage_of {x : Hd} (ok : x.ok) {b : List UInt8} {P : Nat} (hP : Size P) (hb : b.length + 16 ≤ P) : isPage (pageB x b P) := by
  have hz := pageB_size (h := x) hb
  refine ⟨by rw [hz]; exact hP, ?_, ?_⟩
  · rw [pageB_L, got_page ok]
    exact ok
  · rw [body_L, pageB_L, got_page ok, page_drop, hz]
    exact page_of_rest (rest_rest hb)
theorem opened_of {x : Hd} (ok : x.ok) {b : List UInt8} {P : Nat} (hP : Size P) (hb : b.length + 16 ≤ P) : opened (pageB x b P) = told x ⟨(rest b P).toArray⟩ := by
  rw [opened_page (isPage_of ok hP hb), pageB_L, got_page ok]
  refine congrArg (told x) (L_inj ?_)
  rw [body_L, pageB_L, page_drop, L_mk]
theorem right_ev (a0 a1 a2 a3 a4 : Int) : Ev (fun k => head_Right.f k a0 a1 a2 a3 a4) (head_may.right a0 a1 a2 a3 a4) := Ev.of (head_Right.mono a0 a1 a2 a3 a4) (right_eq a0 a1 a2 a3 a4)
end Go.Proofs.Ytnfnmjjdcaphjaa.Spec
