/- What is proved here: what packing of cells answers, in the program. Conditions: sizes within the form's reach. -/
import Derived.Test.YtfialmegikegbaaPS
import Derived.Test.YtfialmegikegbaaNeed
set_option linter.unusedVariables false
set_option linter.unusedSimpArgs false
namespace Go.Proofs.Ytfialmegikegbaa.Spec
open Go.RowKit Go.Proofs.YtfialmegikegbaaW.PrintWords Go.Proofs.YtfialmegikegbaaW.PrintLast Go.Proofs.YtfialmegikegbaaW.PrintMore Go.Proofs.YtfialmegikegbaaEv Go.Proofs.YtfialmegikegbaaSlot Go.Proofs.Ytfialmegikegbaa.P
theorem ofNat_mod (n : Nat) : UInt8.ofNat (n % 256) = UInt8.ofNat n := by
  rw [← UInt8.toNat_inj]
  simp
def placeB (n : Nat) : ByteArray := ⟨(place n).toArray⟩
theorem placeB_L (n : Nat) : L (placeB n) = place n := L_mk _
theorem placeB_size (n : Nat) : (placeB n).size = 2 := size_mk _
theorem place_eq (n : Nat) : slot_place.f (n : Int) = some (placeB n) := by
  unfold slot_place.f
  refine congrArg some (L_inj ?_)
  rw [placeB_L]
  show (strOfNums _).data.toList = _
  rw [strOfNums_data]
  simp only [List.map_cons, List.map_nil, place]
  rw [show ((n : Int) % 256).toNat = n % 256 by omega, show ((n : Int) / 256 % 256).toNat = (n / 256) % 256 by omega, ofNat_mod, ofNat_mod]
def zerosB (n : Nat) : ByteArray := ⟨(List.replicate n (0 : UInt8)).toArray⟩
theorem zerosB_L (n : Nat) : L (zerosB n) = List.replicate n 0 := L_mk _
theorem zerosB_size (n : Nat) : (zerosB n).size = n := by unfold zerosB; rw [size_mk, List.length_replicate]
theorem repeat_eq (n : Nat) (h : n ≤ 140737488300000) : strings_Repeat.f (⟨#[0]⟩ : ByteArray) (n : Int) = some (zerosB n) := by
  unfold strings_Repeat.f
  have e : (⟨#[0]⟩ : ByteArray).size = 1 := rfl
  rw [if_pos (by omega), if_pos (by omega), if_pos (by rw [e]; omega), Int.toNat_natCast]
  refine congrArg some (L_inj ?_)
  rw [zerosB_L, L_mk]
  have := Lib.repeatL_replicate 0 1 n
  rw [Nat.mul_one] at this
  exact this
/-- What both loops make of what is there and of the cells that are left. -/
def fill (room : Nat) (a b : ByteArray) (cs : List ByteArray) : ByteArray := ⟨(L a ++ cat cs ++ List.replicate (room - (a.size + (cat cs).length + 2 * (cs.length + 1) + b.size)) 0 ++ (dir a.size cs ++ L b)).toArray⟩
theorem fill_nil (room : Nat) (a b : ByteArray) (h : a.size + 2 + b.size ≤ room) : (a ++ zerosB (room - (a.size + 2 + b.size))) ++ (placeB a.size ++ b) = fill room a b [] := by
  refine L_inj ?_
  unfold fill
  rw [L_mk]
  simp only [L_append, zerosB_L, placeB_L, cat_nil, dir, List.append_nil, List.length_nil]
theorem fill_cons (room : Nat) (a b c : ByteArray) (cs : List ByteArray) : fill room (a ++ c) (placeB a.size ++ b) cs = fill room a b (c :: cs) := by
  refine L_inj ?_
  unfold fill
  rw [L_mk, L_mk]
  simp only [L_append, placeB_L, cat_cons, dir, ByteArray.size_append, placeB_size, List.append_assoc, List.length_append, L_length, List.length_cons]
  congr 5
  omega
theorem fill_all (room : Nat) (f : ByteArray) (cs : List ByteArray) : fill room f ⟨#[]⟩ cs = body room f cs := by
  refine L_inj ?_
  unfold fill
  rw [body_L, L_mk]
  have e : (⟨#[]⟩ : ByteArray).size = 0 := rfl
  have e' : L (⟨#[]⟩ : ByteArray) = [] := rfl
  have hn : need f cs = f.size + (cat cs).length + 2 * (cs.length + 1) := rfl
  rw [e, e', Nat.add_zero, List.append_nil, hn]
theorem pack_loop (room : Nat) (hr : room ≤ 65535) (cs : List ByteArray) : ∀ (d i : Nat) (a b : ByteArray), i ≤ cs.length → cs.length - i = d → a.size + (cat (cs.drop i)).length + 2 * (d + 1) + b.size ≤ room → cs.length ≤ 65535 →
    Ev (fun k => slot_Pack.l0 k (room : Int) a b cs (cs.length : Int) (i : Int)) (fill room a b (cs.drop i), 0) := by
  intro d
  induction d with
  | zero =>
    intro i a b h1 hd hs hl
    refine ev_step ?_
    simp only [slot_Pack.l0]
    rw [List.drop_of_length_le (by omega), cat_nil] at hs
    simp only [List.length_nil, Nat.add_zero] at hs
    have ep := placeB_size a.size
    have es : (placeB a.size ++ b).size = 2 + b.size := by rw [ByteArray.size_append, ep]
    refine ev_neg (by omega) (ev_bind_now (place_eq a.size) (ev_pos (by omega) ?_))
    rw [es, w64 (x := (room : Int) - _) (by omega) (by omega), w64 (by omega) (by omega), show (room : Int) - (a.size : Int) - ((2 + b.size : Nat) : Int) = ((room - (a.size + 2 + b.size) : Nat) : Int) by omega]
    have ez := zerosB_size (room - (a.size + 2 + b.size))
    have eaz : (a ++ zerosB (room - (a.size + 2 + b.size))).size = room - 2 - b.size := by rw [ByteArray.size_append, ez]; omega
    refine ev_bind_now (repeat_eq _ (by omega)) (ev_pos (by omega) (ev_pos (by omega) (ev_some' ?_)))
    rw [List.drop_of_length_le (by omega), fill_nil room a b (by omega)]
  | succ d ih =>
    intro i a b h1 hd hs hl
    have hi : i < cs.length := by omega
    rw [List.drop_eq_getElem_cons hi, cat_cons, List.length_append, L_length] at hs
    have ep := placeB_size a.size
    refine ev_step ?_
    simp only [slot_Pack.l0]
    rw [rdOf_nat _ cs i hi]
    refine ev_pos (by omega) (ev_pos (by omega) (ev_pos (by omega) (ev_bind_now (place_eq a.size) (ev_pos (by omega) (ev_pos (by omega) ?_)))))
    rw [w64_succ (by omega), List.drop_eq_getElem_cons hi, ← fill_cons]
    exact ih (i + 1) _ _ (by omega) (by omega) (by rw [ByteArray.size_append, ByteArray.size_append, ep]; omega) hl
theorem pack_j (room : Int) (f : ByteArray) (cs : List ByteArray) (h : need f cs ≤ 140737488300000) (t : Bool) (ht : t = decide (room < 0 ∨ room > 65535)) : Ev (fun k => slot_Pack.j0 k room f cs t) (packed room f cs) := by
  have hn : need f cs = f.size + (cat cs).length + 2 * (cs.length + 1) := rfl
  refine ev_step ?_
  simp only [slot_Pack.j0]
  unfold packed
  by_cases hr : room < 0 ∨ room > 65535
  · rw [if_pos hr]
    exact ev_pos (by rw [ht]; exact decide_eq_true hr) ev_some
  · rw [if_neg hr]
    refine ev_neg (by rw [ht]; exact fun h => hr (of_decide_eq_true h)) (ev_bind_now (size_eq f cs h) ?_)
    by_cases hx : (need f cs : Int) > room
    · rw [if_pos hx]
      exact ev_pos hx ev_some
    · rw [if_neg hx]
      obtain ⟨n, rfl⟩ := Int.eq_ofNat_of_zero_le (show 0 ≤ room by omega)
      refine ev_neg hx ?_
      have := pack_loop n (by omega) cs _ 0 f ⟨#[]⟩ (Nat.zero_le _) rfl (by rw [List.drop_zero]; show _ + 0 ≤ n; omega) (by omega)
      rw [List.drop_zero, fill_all] at this
      exact this
theorem pack_ev (room : Int) (f : ByteArray) (cs : List ByteArray) (h : need f cs ≤ 140737488300000) : Ev (fun k => slot_Pack.f k room f cs) (packed room f cs) := by
  unfold slot_Pack.f
  by_cases hr : room < 0
  · exact ev_pos hr (pack_j room f cs h _ (Eq.symm (decide_eq_true (.inl hr))))
  · refine ev_neg hr (pack_j room f cs h _ (decide_eq_decide.2 ?_))
    omega
theorem packed_ok {room : Nat} {f : ByteArray} {cs : List ByteArray} (h : need f cs ≤ room) (hr : room ≤ 65535) : packed (room : Int) f cs = (body room f cs, 0) := by
  unfold packed
  rw [if_neg (by omega), if_neg (by omega), Int.toNat_natCast]
theorem packed_much {room : Nat} {f : ByteArray} {cs : List ByteArray} (h : room < need f cs) (hr : room ≤ 65535) : packed (room : Int) f cs = (⟨#[]⟩, 8) := by
  unfold packed
  rw [if_neg (by omega), if_pos (by omega)]
end Go.Proofs.Ytfialmegikegbaa.Spec
