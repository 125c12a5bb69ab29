/- What is proved here: a value's parts; the law's own fixed calls. Conditions: sizes within the form's reach. -/
import Derived.Test.YtggfnlnonigkiaaDoorChain
import Derived.Test.YtggfnlnonigkiaaDoorHRep
set_option linter.unusedVariables false
set_option linter.unusedSimpArgs false
namespace Go.Proofs.YtggfnlnonigkiaaDoor.Spec
open Go.RowKit Go.Proofs.YtggfnlnonigkiaaDoorW.PrintWords Go.Proofs.YtggfnlnonigkiaaDoorW.PrintLast Go.Proofs.YtggfnlnonigkiaaDoorW.PrintMore Go.Proofs.YtggfnlnonigkiaaDoorEv Go.Proofs.YtggfnlnonigkiaaDoorSum Go.Proofs.YtggfnlnonigkiaaDoorHead Go.Proofs.YtggfnlnonigkiaaDoor.P Go.Proofs.YtggfnlnonigkiaaDoor.HSpec
/-! ### parts -/
def pt (room : Nat) : Nat → ByteArray → List ByteArray
  | 0, _ => []
  | f + 1, x => if x.size = 0 then [] else x.extract 0 (min room x.size) :: pt room f (x.extract (min room x.size) x.size)
theorem pt_nil (room : Nat) : ∀ (f : Nat) (x : ByteArray), x.size = 0 → pt room f x = []
  | 0, _, _ => rfl
  | f + 1, x, h => if_pos h
theorem pt_cons (room f : Nat) (x : ByteArray) (h : x.size ≠ 0) : pt room (f + 1) x = x.extract 0 (min room x.size) :: pt room f (x.extract (min room x.size) x.size) := if_neg h
theorem empty_iff (x : ByteArray) : x.toList = ([] : List UInt8) ↔ x.size = 0 := by
  rw [L_toList, ← L_length]
  exact List.length_eq_zero_iff.symm
theorem parts_loop (room : Nat) (hr : 1 ≤ room) : ∀ (f : Nat) (x : ByteArray) (acc : List ByteArray), x.size ≤ f → acc.length + f ≤ 1000000 → Ev (fun k => chain_Parts.l0 k x (room : Int) acc) (acc ++ pt room f x) := by
  intro f
  induction f with
  | zero =>
    intro x acc h1 h2
    refine ev_step ?_
    simp only [chain_Parts.l0]
    rw [pt_nil room 0 x (by omega), List.append_nil]
    exact ev_pos ((empty_iff x).2 (by omega)) ev_some
  | succ f ih =>
    intro x acc h1 h2
    refine ev_step ?_
    simp only [chain_Parts.l0]
    by_cases h0 : x.size = 0
    · rw [pt_nil room _ x h0, List.append_nil]
      exact ev_pos ((empty_iff x).2 h0) ev_some
    · have hc : chain_Parts.cut (room : Int) x = min room x.size := by unfold chain_Parts.cut; rw [Int.toNat_natCast]
      rw [pt_cons room f x h0, hc]
      refine ev_neg (fun q => h0 ((empty_iff x).1 q)) (ev_pos (by omega) (ev_pos (by omega) ?_))
      have := ih (x.extract (min room x.size) x.size) (acc ++ [x.extract 0 (min room x.size)]) (by rw [size_extract]; omega) (by rw [List.length_append]; show acc.length + 1 + f ≤ _; omega)
      rw [List.append_assoc] at this
      exact this
theorem parts_ev (x : ByteArray) (hx : x.size ≤ 1000000) {p : Int} {r : Nat} (hp : p = (r : Int) + 16) (hr : 1 ≤ r) (hr2 : r ≤ 1008) : Ev (fun k => chain_Parts.f k x p) (pt r x.size x) := by
  unfold chain_Parts.f
  rw [w64 (by omega) (by omega), show p - 16 = (r : Int) by omega]
  have := parts_loop r hr x.size x [] (Nat.le_refl _) (by simpa using hx)
  rw [List.nil_append] at this
  exact this
theorem pt_length (room : Nat) (hr : 1 ≤ room) : ∀ (f : Nat) (x : ByteArray), x.size ≤ f → (pt room f x).length = (x.size + room - 1) / room := by
  intro f
  induction f with
  | zero =>
    intro x h
    rw [pt_nil room 0 x (by omega), List.length_nil, show x.size = 0 by omega, Nat.div_eq_of_lt (by omega)]
  | succ f ih =>
    intro x h
    by_cases h0 : x.size = 0
    · rw [pt_nil room _ x h0, List.length_nil, h0, Nat.div_eq_of_lt (by omega)]
    · have hs : (x.extract (min room x.size) x.size).size = x.size - min room x.size := by rw [size_extract]; omega
      rw [pt_cons room f x h0, List.length_cons, ih _ (by omega), hs]
      by_cases h1 : x.size ≤ room
      · rw [Nat.min_eq_right h1, Nat.sub_self, Nat.div_eq_of_lt (show 0 + room - 1 < room by omega)]
        have e : x.size + room - 1 = (x.size - 1) + room := by omega
        rw [e, Nat.add_div_right _ (by omega), Nat.div_eq_of_lt (show x.size - 1 < room by omega)]
      · rw [Nat.min_eq_left (by omega)]
        have e1 : x.size - room + room - 1 = x.size - 1 := by omega
        have e : x.size + room - 1 = (x.size - 1) + room := by omega
        rw [e1, e, Nat.add_div_right _ (by omega)]
/-! ### how many -/
def pgs (a r : Nat) : Nat := a / r + min (a % r) 1
theorem pages_nat (a r : Nat) (ha : a ≤ 100000000) (hr : 1 ≤ r) (hr2 : r ≤ 1008) {p : Int} (hp : p = (r : Int) + 16) : chain_Pages.f (a : Int) p = some (pgs a r : Int) := by
  unfold chain_Pages.f
  have hd : a / r ≤ a := Nat.div_le_self a r
  rw [w64 (x := p - 16) (by omega) (by omega), show p - 16 = (r : Int) by omega, if_neg (by omega), mx_eq, mn_eq]
  have e0 : max (a : Int) 0 = (a : Int) := by omega
  rw [e0, ← Int.natCast_ediv, ← Int.natCast_emod]
  unfold pgs
  generalize a / r = q at hd ⊢
  generalize a % r = m
  rw [w64 (x := (q : Int)) (by omega) (by omega), w64 (by omega) (by omega)]
  exact congrArg some (by omega)
theorem pages_neg (a : Int) (ha : a ≤ 0) {p : Int} {r : Nat} (hr : 1 ≤ r) (hr2 : r ≤ 1008) (hp : p = (r : Int) + 16) : chain_Pages.f a p = some 0 := by
  have h0 := pages_nat 0 r (by omega) hr hr2 hp
  unfold chain_Pages.f at h0 ⊢
  have e1 : mx a 0 = 0 := by rw [mx_eq]; omega
  have e2 : mx ((0 : Nat) : Int) 0 = 0 := by rw [mx_eq]; omega
  have e3 : pgs 0 r = 0 := by unfold pgs; simp
  rw [e2, e3] at h0
  rw [e1]
  exact h0
theorem pgs_eq (a r : Nat) (hr : 1 ≤ r) : (a + r - 1) / r = pgs a r := by
  unfold pgs
  have h1 := Nat.div_add_mod a r
  have h2 := Nat.mod_lt a (show 0 < r by omega)
  by_cases h0 : a % r = 0
  · rw [h0, Nat.zero_min, Nat.add_zero]
    have e : a + r - 1 = (r - 1) + r * (a / r) := by omega
    rw [e, Nat.add_mul_div_left _ _ (by omega), Nat.div_eq_of_lt (by omega), Nat.zero_add]
  · have e : a + r - 1 = (a % r - 1) + r * (a / r + 1) := by rw [Nat.mul_add, Nat.mul_one]; omega
    rw [e, Nat.add_mul_div_left _ _ (by omega), Nat.div_eq_of_lt (by omega), Nat.zero_add]
    omega
/-! ### the law's fixed calls -/
abbrev abc : ByteArray := ⟨#[97, 98, 99]⟩
theorem ok1 : Ok 5 0 abc 128 := ⟨.inl rfl, by omega, by omega, by omega, fun _ => ⟨by decide, by decide⟩, fun h => absurd rfl h⟩
theorem ok2 : Ok 5 6 (repB 7 112) 128 := ⟨.inl rfl, by omega, by omega, by omega, fun h => absurd h (by omega), fun _ => by rw [repB_size]; rfl⟩
theorem bad1 : ¬ Ok 5 0 ⟨#[]⟩ 128 := fun h => absurd (h.2.2.2.2.1 rfl).1 (by decide)
theorem bad2 : ¬ Ok 5 6 abc 128 := fun h => absurd (h.2.2.2.2.2 (by omega)) (by decide)
theorem zero_page (n : Nat) : ¬ isPage (repB 0 n) := fun h => by
  have h1 := h.2.1.1
  have h2 : (L (repB 0 n)).getD 0 0 = 0 := by
    rw [repB_L]
    cases n <;> rfl
  have h3 : (got (L (repB 0 n))).k = ((L (repB 0 n)).getD 0 0).toNat := rfl
  rw [h3, h2] at h1
  exact absurd h1 (by decide)
theorem pt_two (x : ByteArray) (hx : x.size = 113) : pt 112 x.size x = [x.extract 0 112, (x.extract 112 113).extract 0 1] := by
  rw [hx, pt_cons 112 112 x (by omega), hx, show min 112 113 = 112 from rfl]
  have h1 : (x.extract 112 113).size = 1 := by rw [size_extract, hx]; rfl
  rw [pt_cons 112 111 _ (by omega), h1, show min 112 1 = 1 from rfl, pt_nil 112 111 _ (by rw [size_extract, h1]; rfl)]
theorem fixed_ev : Ev (fun k => withylaw12_fixed.f k) true := by
  have hs := page_size ok1
  have hL : L (chPage 5 0 abc 128) = page (chHd 5 0 abc) (L abc) 128 := pageB_L _ _ _
  have hb0 : bt (chPage 5 0 abc 128) 0 = 4 := by
    have := bt_getD (chPage 5 0 abc 128) 0
    rw [hL] at this
    exact this
  have hb2 : bt (chPage 5 0 abc 128) 2 = 3 := by
    have := bt_getD (chPage 5 0 abc 128) 2
    rw [hL] at this
    exact this
  have hx : ((chPage 5 0 abc 128).extract 16 20).toList = ([97, 98, 99, 0] : List UInt8) := by
    rw [L_toList, L_extract, hL, page_drop]
    rfl
  have hp := repB_size 1 113
  unfold withylaw12_fixed.f
  refine ev_bind (ev_eq (enc_ev 5 0 abc 128) (enc_ok ok1)) ?_
  refine ev_bind (ev_eq (enc_ev 5 0 abc 64) (show chEnc 5 0 abc 64 = (⟨#[]⟩, 4) from if_neg (by decide))) ?_
  refine ev_bind (ev_eq (enc_ev 5 0 ⟨#[]⟩ 128) (enc_bad rfl bad1)) ?_
  refine ev_bind (ev_eq (enc_ev 5 6 abc 128) (enc_bad rfl bad2)) ?_
  refine ev_bind (show Ev (fun k => withyref01_Repeat.f k 7 112) (repB 7 112) from rrepeat_ev 7 112 (by omega)) ?_
  refine ev_bind (ev_eq (enc_ev 5 6 (repB 7 112) 128) (enc_ok ok2)) ?_
  refine ev_pos (by first | exact trivial | rfl) (ev_pos hs (ev_step ?_))
  simp only [withylaw12_fixed.j0]
  refine ev_neg (by decide) ?_
  refine ev_bind (ev_eq (dec_ev _ (by omega)) (dec_page ok1)) ?_
  refine ev_bind (ev_eq (dec_ev _ (by have := page_size ok2; omega)) (dec_page ok2)) ?_
  refine ev_bind (show Ev (fun k => withyref01_Repeat.f k 0 128) (repB 0 128) from rrepeat_ev 0 128 (by omega)) ?_
  refine ev_bind (ev_eq (dec_ev _ (by rw [repB_size]; omega)) (dec_none (zero_page 128))) ?_
  refine ev_bind (show Ev (fun k => withyref01_Repeat.f k 1 113) (repB 1 113) from rrepeat_ev 1 113 (by omega)) ?_
  refine ev_bind (ev_eq (parts_ev (repB 1 113) (by omega) (p := 128) (r := 112) rfl (by omega) (by omega)) (pt_two _ hp)) ?_
  refine ev_pos (by omega) (ev_pos hb0 (ev_pos (by omega) (ev_pos hb2 (ev_pos (by omega) (ev_pos (by omega) (ev_pos hx ?_))))))
  refine ev_pos (by first | exact trivial | rfl) (ev_pos (by first | exact trivial | rfl) (ev_pos (by first | exact trivial | rfl) (ev_pos (by first | exact trivial | rfl | simp) (ev_pos (by first | exact trivial | rfl) (ev_pos (by first | exact trivial | rfl) (ev_pos (by show ((repB 7 112).size : Int) = 112; rw [repB_size]; rfl) (ev_pos (by first | exact trivial | rfl) (ev_pos (by first | exact trivial | rfl) ?_))))))))
  refine ev_pos (by first | exact trivial | rfl) (ev_pos (by first | exact trivial | decide) (ev_pos (by show (((repB 1 113).extract 0 112).size : Int) = 112; rw [size_extract, hp]; rfl) (ev_pos (by first | exact trivial | decide) (ev_pos (by show ((((repB 1 113).extract 112 113).extract 0 1).size : Int) = 1; rw [size_extract, size_extract, hp]; rfl) ?_))))
  refine ev_bind_now (show chain_Pages.f 113 128 = some 2 from pages_nat 113 112 (by omega) (by omega) (by omega) rfl) (ev_pos (by first | exact trivial | rfl) ?_)
  refine ev_bind_now (show chain_Pages.f 112 128 = some 1 from pages_nat 112 112 (by omega) (by omega) (by omega) rfl) (ev_pos (by first | exact trivial | rfl) ?_)
  refine ev_bind_now (show chain_Pages.f 0 128 = some 0 from pages_nat 0 112 (by omega) (by omega) (by omega) rfl) (ev_pos (by first | exact trivial | rfl) ?_)
  refine ev_bind (ev_eq (parts_ev ⟨#[]⟩ (by decide) (p := 128) (r := 112) rfl (by omega) (by omega)) (pt_nil 112 _ _ rfl)) ?_
  refine ev_pos (by first | exact trivial | rfl) (ev_bind_now (may_eq 5 0 abc 128) (ev_pos (decide_eq_true ok1) ?_))
  refine ev_bind_now (may_eq 0 0 ⟨#[]⟩ 128) (ev_some' ?_)
  rw [decide_eq_false (fun h => absurd h.2.1.1 (by omega))]
  rfl
end Go.Proofs.YtggfnlnonigkiaaDoor.Spec
