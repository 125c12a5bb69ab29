/- What is proved here: what the printed functions of slot, of its reference and of the law's own helpers answer, in plain words on lists of bytes. Conditions: sizes within the form's reach. -/
import Derived.Test.YtkhbmgnjopkeaaaP
import Derived.Test.YtkhbmgnjopkeaaaEv
import Derived.Test.YtkhbmgnjopkeaaaSlot
set_option linter.unusedVariables false
set_option linter.unusedSimpArgs false
namespace Go.Proofs.Ytkhbmgnjopkeaaa.Spec
open Go.RowKit Go.Proofs.YtkhbmgnjopkeaaaW.PrintWords Go.Proofs.YtkhbmgnjopkeaaaW.PrintLast Go.Proofs.YtkhbmgnjopkeaaaW.PrintMore Go.Proofs.YtkhbmgnjopkeaaaEv Go.Proofs.YtkhbmgnjopkeaaaSlot Go.Proofs.Ytkhbmgnjopkeaaa.P

theorem not_true_of {b : Bool} (h : b = false) : ¬ b = true := by rw [h]; exact Bool.false_ne_true
theorem words_loop (a b : List ByteArray) (hl : a.length = b.length) (hb : a.length ≤ 140737488351232) : ∀ (d i : Nat), i ≤ a.length → a.length - i = d →
    Ev (fun k => withyref01_Words.l0 k a b (i : Int)) (decide (a.drop i = b.drop i)) := by
  intro d
  induction d with
  | zero =>
    intro i h1 hd
    refine ev_step ?_
    simp only [withyref01_Words.l0]
    refine ev_neg (by omega) (ev_some' ?_)
    rw [List.drop_of_length_le (by omega), List.drop_of_length_le (by omega)]
    simp
  | succ d ih =>
    intro i h1 hd
    have hi : i < a.length := by omega
    have hj : i < b.length := by omega
    refine ev_step ?_
    simp only [withyref01_Words.l0, L_toList]
    rw [rdOf_nat _ a i hi, rdOf_nat _ b i hj]
    refine ev_pos (by omega) (ev_pos (by omega) (ev_pos (by omega) ?_))
    rw [List.drop_eq_getElem_cons hi, List.drop_eq_getElem_cons hj]
    by_cases h : L a[i] = L b[i]
    · refine ev_pos h ?_
      rw [w64_succ (by omega)]
      refine ev_eq (ih (i + 1) (by omega) (by omega)) (decide_eq_decide.2 ?_)
      rw [L_inj h]
      exact ⟨fun e => by rw [e], fun e => by injection e⟩
    · refine ev_neg h (ev_some' (Eq.symm (decide_eq_false ?_)))
      intro e
      injection e with e1 e2
      exact h (by rw [e1])
theorem words_ev (a b : List ByteArray) (hb : a.length ≤ 140737488351232) : Ev (fun k => withyref01_Words.f k a b) (decide (a = b)) := by
  unfold withyref01_Words.f
  by_cases hl : a.length = b.length
  · refine ev_pos (by omega) ?_
    exact words_loop a b hl hb _ 0 (Nat.zero_le _) rfl
  · refine ev_neg (by omega) (ev_some' ?_)
    exact Eq.symm (decide_eq_false (fun e => hl (by rw [e])))

/-- At most thirty texts of sixty bytes. -/
def cut60 (s : ByteArray) : ByteArray := s.extract 0 (min s.size 60)
def cutAll (l : List ByteArray) : List ByteArray := (l.take 30).map cut60
theorem cut60_size (s : ByteArray) : (cut60 s).size = min s.size 60 := by unfold cut60; rw [size_extract]; omega
theorem cutAll_size {l : List ByteArray} {s : ByteArray} (h : s ∈ cutAll l) : s.size ≤ 60 := by
  obtain ⟨t, _, rfl⟩ := List.mem_map.1 h
  rw [cut60_size]
  omega
theorem cutAll_length (l : List ByteArray) : (cutAll l).length ≤ 30 := by unfold cutAll; simp; omega
theorem mn60 (s : ByteArray) : (mn (s.size : Int) 60).toNat = min s.size 60 := by rw [mn_eq]; omega
theorem cut_loop (l : List ByteArray) : ∀ (d i : Nat) (acc : List ByteArray), i ≤ 30 → i ≤ l.length → acc.length = i → min l.length 30 - i = d →
    Ev (fun k => withylaw05_Cut.l0 k l acc (i : Int)) (acc ++ ((l.take 30).drop i).map cut60) := by
  intro d
  induction d with
  | zero =>
    intro i acc h1 h2 ha hd
    refine ev_step ?_
    simp only [withylaw05_Cut.l0]
    rw [List.drop_of_length_le (by simp <;> omega), List.map_nil, List.append_nil]
    by_cases h : i < l.length
    · exact ev_pos (by omega) (ev_neg (by omega) ev_some)
    · exact ev_neg (by omega) ev_some
  | succ d ih =>
    intro i acc h1 h2 ha hd
    have hi : i < l.length := by omega
    have hi' : i < (l.take 30).length := by simp; omega
    refine ev_step ?_
    simp only [withylaw05_Cut.l0]
    rw [rdOf_nat _ l i hi, mn60]
    have hm := mn_eq (l[i].size : Int) 60
    refine ev_pos (by omega) (ev_pos (by omega) (ev_pos (by omega) (ev_pos (by omega) (ev_pos (by omega) (ev_pos (by omega) ?_)))))
    rw [w64_succ (by omega)]
    refine ev_eq (ih (i + 1) _ (by omega) (by omega) (by simp <;> omega) (by omega)) ?_
    rw [List.drop_eq_getElem_cons hi', List.map_cons, List.append_assoc, List.getElem_take]
    rfl
theorem cut_ev (l : List ByteArray) : Ev (fun k => withylaw05_Cut.f k l) (cutAll l) := by
  unfold withylaw05_Cut.f
  refine ev_eq (cut_loop l _ 0 [] (Nat.zero_le _) (Nat.zero_le _) rfl rfl) ?_
  rw [List.drop_zero, List.nil_append]
  rfl

/-! ### slot and its reference -/
theorem ofNat_mod (n : Nat) : UInt8.ofNat (n % 256) = UInt8.ofNat n := by
  rw [← UInt8.toNat_inj]
  simp
def placeB (n : Nat) : ByteArray := ⟨(place n).toArray⟩
theorem placeB_L (n : Nat) : L (placeB n) = place n := L_mk _
theorem placeB_size (n : Nat) : (placeB n).size = 2 := size_mk _
theorem place_eq (n : Nat) : slot_place.f (n : Int) = some (placeB n) := by
  unfold slot_place.f
  refine congrArg some (L_inj ?_)
  rw [placeB_L]
  show (strOfNums _).data.toList = _
  rw [strOfNums_data]
  simp only [List.map_cons, List.map_nil, place]
  rw [show ((n : Int) % 256).toNat = n % 256 by omega, show ((n : Int) / 256 % 256).toNat = (n / 256) % 256 by omega, ofNat_mod, ofNat_mod]
theorem two_eq (n : Nat) (h : n ≤ 9223372036854775807) : withyref08_two.f (n : Int) = some (placeB n) := by
  unfold withyref08_two.f
  refine congrArg some (L_inj ?_)
  rw [placeB_L]
  show (strOfNums _).data.toList = _
  rw [strOfNums_data]
  simp only [List.map_cons, List.map_nil, place]
  rw [Int.tmod_eq_emod_of_nonneg (by omega), Int.tdiv_eq_ediv_of_nonneg (by omega), w64 (by omega) (by omega)]
  rw [show ((n : Int) % 256 % 256).toNat = n % 256 by omega, show ((n : Int) / 256 % 256).toNat = (n / 256) % 256 by omega, ofNat_mod, ofNat_mod]

theorem join_flat (xs : List (List UInt8)) : Lib.join xs [] = xs.flatten := by
  cases xs with
  | nil => rfl
  | cons x r =>
    rw [Lib.join_cons]
    simp [Lib.joinTail]
theorem size_eq (f : ByteArray) (cs : List ByteArray) (h : need f cs ≤ 140737488300000) : slot_Size.f f cs = some (need f cs : Int) := by
  have hn : need f cs = f.size + (cat cs).length + 2 * (cs.length + 1) := rfl
  have e : Lib.join (cs.map (fun x => x.data.toList)) (⟨#[]⟩ : ByteArray).data.toList = cat cs := join_flat _
  unfold slot_Size.f strings_Join.f
  have e2 : (⟨(cat cs).toArray⟩ : ByteArray).size = (cat cs).length := size_mk _
  rw [e, if_pos (by omega), if_pos (by omega), Option.bind_some, e2]
  refine congrArg some ?_
  rw [w64 (x := (cs.length : Int) + 1) (by omega) (by omega), w64 (x := 2 * _) (by omega) (by omega), w64 (x := (f.size : Int) + _) (by omega) (by omega), w64 (by omega) (by omega)]
  omega
theorem rsize_loop (cs : List ByteArray) (B : Nat) (hB : B ≤ 140737488300000) (hl : cs.length ≤ B) : ∀ (d i acc : Nat), i ≤ cs.length → cs.length - i = d → acc + (cat (cs.drop i)).length + 2 * d = B → Ev (fun k => withyref08_Size.l0 k cs (acc : Int) (i : Int)) (B : Int) := by
  intro d
  induction d with
  | zero =>
    intro i acc h1 hd hs
    refine ev_step ?_
    simp only [withyref08_Size.l0]
    rw [List.drop_of_length_le (by omega), cat_nil] at hs
    exact ev_neg (by omega) (ev_some' (by simp at hs; omega))
  | succ d ih =>
    intro i acc h1 hd hs
    have hi : i < cs.length := by omega
    rw [List.drop_eq_getElem_cons hi, cat_cons, List.length_append, L_length] at hs
    refine ev_step ?_
    simp only [withyref08_Size.l0]
    rw [rdOf_nat _ cs i hi]
    refine ev_pos (by omega) (ev_pos (by omega) ?_)
    rw [w64_succ (by omega), w64 (x := (acc : Int) + _) (by omega) (by omega), w64 (by omega) (by omega)]
    rw [show (acc : Int) + (cs[i].size : Int) + 2 = ((acc + cs[i].size + 2 : Nat) : Int) by omega]
    exact ih (i + 1) (acc + cs[i].size + 2) (by omega) (by omega) (by omega)
theorem rsize_ev (f : ByteArray) (cs : List ByteArray) (h : need f cs ≤ 140737488300000) : Ev (fun k => withyref08_Size.f k f cs) (need f cs : Int) := by
  have hn : need f cs = f.size + (cat cs).length + 2 * (cs.length + 1) := rfl
  unfold withyref08_Size.f
  rw [w64 (by omega) (by omega), show (f.size : Int) + 2 = ((f.size + 2 : Nat) : Int) by omega]
  exact rsize_loop cs _ h (by omega) _ 0 _ (Nat.zero_le _) rfl (by rw [List.drop_zero]; omega)

def zerosB (n : Nat) : ByteArray := ⟨(List.replicate n (0 : UInt8)).toArray⟩
theorem zerosB_L (n : Nat) : L (zerosB n) = List.replicate n 0 := L_mk _
theorem zerosB_size (n : Nat) : (zerosB n).size = n := by unfold zerosB; rw [size_mk, List.length_replicate]
theorem repeat_eq (n : Nat) (h : n ≤ 140737488300000) : strings_Repeat.f (⟨#[0]⟩ : ByteArray) (n : Int) = some (zerosB n) := by
  unfold strings_Repeat.f
  have e : (⟨#[0]⟩ : ByteArray).size = 1 := rfl
  rw [if_pos (by omega), if_pos (by omega), if_pos (by rw [e]; omega), Int.toNat_natCast]
  refine congrArg some (L_inj ?_)
  rw [zerosB_L, L_mk]
  have := Lib.repeatL_replicate 0 1 n
  rw [Nat.mul_one] at this
  exact this
theorem rrepeat_loop (n : Nat) (h : n ≤ 140737488300000) : ∀ (d i : Nat), i ≤ n → n - i = d → Ev (fun k => withyref01_Repeat.l0 k 0 (n : Int) (List.replicate i (0 : Int)) (i : Int)) (zerosB n) := by
  intro d
  induction d with
  | zero =>
    intro i h1 hd
    obtain rfl : i = n := by omega
    refine ev_step ?_
    simp only [withyref01_Repeat.l0]
    refine ev_neg (by omega) (ev_some' (L_inj ?_))
    rw [zerosB_L]
    show (strOfNums _).data.toList = _
    rw [strOfNums_data, List.map_replicate]
    rfl
  | succ d ih =>
    intro i h1 hd
    refine ev_step ?_
    simp only [withyref01_Repeat.l0]
    refine ev_pos (by omega) (ev_pos (by simp; omega) ?_)
    rw [w64_succ (by omega), ← List.replicate_succ']
    exact ih (i + 1) (by omega) (by omega)
theorem rrepeat_ev (n : Nat) (h : n ≤ 140737488300000) : Ev (fun k => withyref01_Repeat.f k 0 (n : Int)) (zerosB n) := by
  unfold withyref01_Repeat.f
  exact rrepeat_loop n h n 0 (Nat.zero_le _) rfl

/-- What both loops make of what is there and of the cells that are left. -/
def fill (room : Nat) (a b : ByteArray) (cs : List ByteArray) : ByteArray := ⟨(L a ++ cat cs ++ List.replicate (room - (a.size + (cat cs).length + 2 * (cs.length + 1) + b.size)) 0 ++ (dir a.size cs ++ L b)).toArray⟩
theorem fill_nil (room : Nat) (a b : ByteArray) (h : a.size + 2 + b.size ≤ room) : (a ++ zerosB (room - (a.size + 2 + b.size))) ++ (placeB a.size ++ b) = fill room a b [] := by
  refine L_inj ?_
  unfold fill
  rw [L_mk]
  simp only [L_append, zerosB_L, placeB_L, cat_nil, dir, List.append_nil, List.length_nil]
theorem fill_cons (room : Nat) (a b c : ByteArray) (cs : List ByteArray) : fill room (a ++ c) (placeB a.size ++ b) cs = fill room a b (c :: cs) := by
  refine L_inj ?_
  unfold fill
  rw [L_mk, L_mk]
  simp only [L_append, placeB_L, cat_cons, dir, ByteArray.size_append, placeB_size, List.append_assoc, List.length_append, L_length, List.length_cons]
  congr 5
  omega
theorem fill_all (room : Nat) (f : ByteArray) (cs : List ByteArray) : fill room f ⟨#[]⟩ cs = body room f cs := by
  refine L_inj ?_
  unfold fill
  rw [body_L, L_mk]
  have e : (⟨#[]⟩ : ByteArray).size = 0 := rfl
  have e' : L (⟨#[]⟩ : ByteArray) = [] := rfl
  have hn : need f cs = f.size + (cat cs).length + 2 * (cs.length + 1) := rfl
  rw [e, e', Nat.add_zero, List.append_nil, hn]
theorem pack_loop (room : Nat) (hr : room ≤ 65535) (cs : List ByteArray) : ∀ (d i : Nat) (a b : ByteArray), i ≤ cs.length → cs.length - i = d → a.size + (cat (cs.drop i)).length + 2 * (d + 1) + b.size ≤ room → cs.length ≤ 65535 →
    Ev (fun k => slot_Pack.l0 k (room : Int) a b cs (cs.length : Int) (i : Int)) (fill room a b (cs.drop i), 0) := by
  intro d
  induction d with
  | zero =>
    intro i a b h1 hd hs hl
    refine ev_step ?_
    simp only [slot_Pack.l0]
    rw [List.drop_of_length_le (by omega), cat_nil] at hs
    simp only [List.length_nil, Nat.add_zero] at hs
    have ep := placeB_size a.size
    have es : (placeB a.size ++ b).size = 2 + b.size := by rw [ByteArray.size_append, ep]
    refine ev_neg (by omega) (ev_bind_now (place_eq a.size) (ev_pos (by omega) ?_))
    rw [es, w64 (x := (room : Int) - _) (by omega) (by omega), w64 (by omega) (by omega), show (room : Int) - (a.size : Int) - ((2 + b.size : Nat) : Int) = ((room - (a.size + 2 + b.size) : Nat) : Int) by omega]
    have ez := zerosB_size (room - (a.size + 2 + b.size))
    have eaz : (a ++ zerosB (room - (a.size + 2 + b.size))).size = room - 2 - b.size := by rw [ByteArray.size_append, ez]; omega
    refine ev_bind_now (repeat_eq _ (by omega)) (ev_pos (by omega) (ev_pos (by omega) (ev_some' ?_)))
    rw [List.drop_of_length_le (by omega), fill_nil room a b (by omega)]
  | succ d ih =>
    intro i a b h1 hd hs hl
    have hi : i < cs.length := by omega
    rw [List.drop_eq_getElem_cons hi, cat_cons, List.length_append, L_length] at hs
    have ep := placeB_size a.size
    refine ev_step ?_
    simp only [slot_Pack.l0]
    rw [rdOf_nat _ cs i hi]
    refine ev_pos (by omega) (ev_pos (by omega) (ev_pos (by omega) (ev_bind_now (place_eq a.size) (ev_pos (by omega) (ev_pos (by omega) ?_)))))
    rw [w64_succ (by omega), List.drop_eq_getElem_cons hi, ← fill_cons]
    exact ih (i + 1) _ _ (by omega) (by omega) (by rw [ByteArray.size_append, ByteArray.size_append, ep]; omega) hl
theorem pack_j (room : Int) (f : ByteArray) (cs : List ByteArray) (h : need f cs ≤ 140737488300000) (t : Bool) (ht : t = decide (room < 0 ∨ room > 65535)) : Ev (fun k => slot_Pack.j0 k room f cs t) (packed room f cs) := by
  have hn : need f cs = f.size + (cat cs).length + 2 * (cs.length + 1) := rfl
  refine ev_step ?_
  simp only [slot_Pack.j0]
  unfold packed
  by_cases hr : room < 0 ∨ room > 65535
  · rw [if_pos hr]
    exact ev_pos (by rw [ht]; exact decide_eq_true hr) ev_some
  · rw [if_neg hr]
    refine ev_neg (by rw [ht]; exact fun h => hr (of_decide_eq_true h)) (ev_bind_now (size_eq f cs h) ?_)
    by_cases hx : (need f cs : Int) > room
    · rw [if_pos hx]
      exact ev_pos hx ev_some
    · rw [if_neg hx]
      obtain ⟨n, rfl⟩ := Int.eq_ofNat_of_zero_le (show 0 ≤ room by omega)
      refine ev_neg hx ?_
      have := pack_loop n (by omega) cs _ 0 f ⟨#[]⟩ (Nat.zero_le _) rfl (by rw [List.drop_zero]; show _ + 0 ≤ n; omega) (by omega)
      rw [List.drop_zero, fill_all] at this
      exact this
theorem pack_ev (room : Int) (f : ByteArray) (cs : List ByteArray) (h : need f cs ≤ 140737488300000) : Ev (fun k => slot_Pack.f k room f cs) (packed room f cs) := by
  unfold slot_Pack.f
  by_cases hr : room < 0
  · exact ev_pos hr (pack_j room f cs h _ (Eq.symm (decide_eq_true (.inl hr))))
  · refine ev_neg hr (pack_j room f cs h _ (decide_eq_decide.2 ?_))
    omega
theorem rpack_loop (room : Nat) (hr : room ≤ 65535) (cs : List ByteArray) : ∀ (d i : Nat) (a b : ByteArray), i ≤ cs.length → cs.length - i = d → a.size + (cat (cs.drop i)).length + 2 * (d + 1) + b.size ≤ room → cs.length ≤ 65535 →
    Ev (fun k => withyref08_Pack.l0 k (room : Int) cs a b (i : Int)) (fill room a b (cs.drop i), 0) := by
  intro d
  induction d with
  | zero =>
    intro i a b h1 hd hs hl
    refine ev_step ?_
    simp only [withyref08_Pack.l0]
    rw [List.drop_of_length_le (by omega), cat_nil] at hs
    simp only [List.length_nil, Nat.add_zero] at hs
    have ep := placeB_size a.size
    have es : (placeB a.size ++ b).size = 2 + b.size := by rw [ByteArray.size_append, ep]
    refine ev_neg (by omega) (ev_bind_now (two_eq a.size (by omega)) (ev_pos (by omega) ?_))
    rw [es, w64 (x := (room : Int) - _) (by omega) (by omega), w64 (by omega) (by omega), show (room : Int) - (a.size : Int) - ((2 + b.size : Nat) : Int) = ((room - (a.size + 2 + b.size) : Nat) : Int) by omega]
    have ez := zerosB_size (room - (a.size + 2 + b.size))
    have eaz : (a ++ zerosB (room - (a.size + 2 + b.size))).size = room - 2 - b.size := by rw [ByteArray.size_append, ez]; omega
    refine ev_bind (rrepeat_ev _ (by omega)) (ev_pos (by omega) (ev_pos (by omega) (ev_some' ?_)))
    rw [List.drop_of_length_le (by omega), fill_nil room a b (by omega)]
  | succ d ih =>
    intro i a b h1 hd hs hl
    have hi : i < cs.length := by omega
    rw [List.drop_eq_getElem_cons hi, cat_cons, List.length_append, L_length] at hs
    have ep := placeB_size a.size
    refine ev_step ?_
    simp only [withyref08_Pack.l0]
    rw [rdOf_nat _ cs i hi]
    refine ev_pos (by omega) (ev_bind_now (two_eq a.size (by omega)) (ev_pos (by omega) (ev_pos (by omega) (ev_pos (by omega) ?_))))
    rw [w64_succ (by omega), List.drop_eq_getElem_cons hi, ← fill_cons]
    exact ih (i + 1) _ _ (by omega) (by omega) (by rw [ByteArray.size_append, ByteArray.size_append, ep]; omega) hl
theorem rpack_j (room : Int) (f : ByteArray) (cs : List ByteArray) (h : need f cs ≤ 140737488300000) (t : Bool) (ht : t = decide (room < 0 ∨ room > 65535)) : Ev (fun k => withyref08_Pack.j0 k room f cs t) (packed room f cs) := by
  have hn : need f cs = f.size + (cat cs).length + 2 * (cs.length + 1) := rfl
  refine ev_step ?_
  simp only [withyref08_Pack.j0]
  unfold packed
  by_cases hr : room < 0 ∨ room > 65535
  · rw [if_pos hr]
    exact ev_pos (by rw [ht]; exact decide_eq_true hr) ev_some
  · rw [if_neg hr]
    refine ev_neg (by rw [ht]; exact fun h => hr (of_decide_eq_true h)) (ev_bind (rsize_ev f cs h) ?_)
    by_cases hx : (need f cs : Int) > room
    · rw [if_pos hx]
      exact ev_pos hx ev_some
    · rw [if_neg hx]
      obtain ⟨n, rfl⟩ := Int.eq_ofNat_of_zero_le (show 0 ≤ room by omega)
      refine ev_neg hx ?_
      have := rpack_loop n (by omega) cs _ 0 f ⟨#[]⟩ (Nat.zero_le _) rfl (by rw [List.drop_zero]; show _ + 0 ≤ n; omega) (by omega)
      rw [List.drop_zero, fill_all] at this
      exact this
theorem rpack_ev (room : Int) (f : ByteArray) (cs : List ByteArray) (h : need f cs ≤ 140737488300000) : Ev (fun k => withyref08_Pack.f k room f cs) (packed room f cs) := by
  unfold withyref08_Pack.f
  by_cases hr : room < 0
  · exact ev_pos hr (rpack_j room f cs h _ (Eq.symm (decide_eq_true (.inl hr))))
  · refine ev_neg hr (rpack_j room f cs h _ (decide_eq_decide.2 ?_))
    omega

theorem bt_getD (s : ByteArray) (i : Nat) (h : i < s.size) : bt s (i : Int) = (((L s).getD i 0).toNat : Int) := by
  have h' : i < (L s).length := by rw [L_length]; exact h
  rw [bt_L s i h', List.getD_eq_getElem?_getD, List.getElem?_eq_getElem h']
  rfl
theorem at_eq (b : ByteArray) (i : Nat) (h : 2 * (i + 1) ≤ b.size) (hb : b.size ≤ 65535) : slot_at.f b (i : Int) = some (ent (L b) i : Int) := by
  unfold slot_at.f
  rw [w64 (x := (i : Int) + 1) (by omega) (by omega), w64 (x := 2 * _) (by omega) (by omega), w64 (x := (b.size : Int) - _) (by omega) (by omega), w64 (x := (b.size : Int) - 2 * ((i : Int) + 1) + 1) (by omega) (by omega)]
  rw [if_pos (by omega), if_pos (by omega), if_pos (by omega), if_pos (by omega)]
  rw [show (b.size : Int) - 2 * ((i : Int) + 1) = ((b.size - 2 * (i + 1) : Nat) : Int) by omega, show ((b.size - 2 * (i + 1) : Nat) : Int) + 1 = ((b.size - 2 * (i + 1) + 1 : Nat) : Int) by omega, bt_getD _ _ (by omega), bt_getD _ _ (by omega)]
  refine congrArg some ?_
  unfold ent
  rw [L_length]
  have h1 := ((L b).getD (b.size - 2 * (i + 1)) 0).toNat_lt
  have h2 := ((L b).getD (b.size - 2 * (i + 1) + 1) 0).toNat_lt
  rw [w64 (x := (((L b).getD (b.size - 2 * (i + 1)) 0).toNat : Int)) (by omega) (by omega), w64 (x := (((L b).getD (b.size - 2 * (i + 1) + 1) 0).toNat : Int)) (by omega) (by omega), w64 (x := _ * 256) (by omega) (by omega), w64 (by omega) (by omega)]
  omega
theorem rat_eq (b : ByteArray) (i : Nat) (h : 2 * (i + 1) ≤ b.size) (hb : b.size ≤ 65535) : withyref08_at.f b (i : Int) = some (ent (L b) i : Int) := by
  unfold withyref08_at.f
  rw [w64 (x := 2 * (i : Int)) (by omega) (by omega), w64 (x := (b.size : Int) - 2 * (i : Int)) (by omega) (by omega), w64 (x := (b.size : Int) - 2 * (i : Int) - 2) (by omega) (by omega), w64 (x := (b.size : Int) - 2 * (i : Int) - 2 + 1) (by omega) (by omega)]
  rw [if_pos (by omega), if_pos (by omega), if_pos (by omega), if_pos (by omega)]
  rw [show (b.size : Int) - 2 * (i : Int) - 2 = ((b.size - 2 * (i + 1) : Nat) : Int) by omega, show ((b.size - 2 * (i + 1) : Nat) : Int) + 1 = ((b.size - 2 * (i + 1) + 1 : Nat) : Int) by omega, bt_getD _ _ (by omega), bt_getD _ _ (by omega)]
  refine congrArg some ?_
  unfold ent
  rw [L_length]
  have h1 := ((L b).getD (b.size - 2 * (i + 1)) 0).toNat_lt
  have h2 := ((L b).getD (b.size - 2 * (i + 1) + 1) 0).toNat_lt
  rw [w64 (x := (((L b).getD (b.size - 2 * (i + 1)) 0).toNat : Int)) (by omega) (by omega), w64 (x := (((L b).getD (b.size - 2 * (i + 1) + 1) 0).toNat : Int)) (by omega) (by omega), w64 (x := 256 * _) (by omega) (by omega), w64 (by omega) (by omega)]
  omega

/-- What both loops of the reading make. -/
def readOf (b : ByteArray) (f d i : Nat) (acc : List ByteArray) : List ByteArray × Int :=
  match cuts b d i acc with
  | none => ([], 3)
  | some cs => if packed (b.size : Int) (b.extract 0 f) cs = (b, 0) then (cs, 0) else ([], 3)
theorem need_small (b : ByteArray) (hb : b.size ≤ 65535) (f : ByteArray) (hf : f.size ≤ 65535) (cs : List ByteArray) (hl : cs.length ≤ 65535) (hs : ∀ c ∈ cs, c.size ≤ b.size) : need f cs ≤ 140737488300000 := by
  have hn : need f cs = f.size + (cat cs).length + 2 * (cs.length + 1) := rfl
  have h := cat_length_le 65535 cs (fun c hc => by have := hs c hc; omega)
  have : cs.length * 65535 ≤ 65535 * 65535 := Nat.mul_le_mul_right _ hl
  omega
theorem read_end {b : ByteArray} {P : Nat → Option (ByteArray × Int)} {p : ByteArray × Int} {cs : List ByteArray} (hP : Ev P p) : Ev (fun k => (P k).bind fun bt139 => (if bt139.2 = 0 then (if bt139.1.toList = b.toList then (some (cs, (0 : Int))) else (some (([] : List ByteArray), 3))) else (some (([] : List ByteArray), 3)))) (if p = (b, 0) then (cs, 0) else ([], 3)) := by
  refine ev_bind hP ?_
  simp only [L_toList]
  by_cases h2 : p.2 = 0
  · by_cases h1 : L p.1 = L b
    · rw [if_pos (Prod.ext (L_inj h1) h2)]
      exact ev_pos h2 (ev_pos h1 ev_some)
    · rw [if_neg (fun h : p = (b, 0) => h1 (by rw [h]))]
      exact ev_pos h2 (ev_neg h1 ev_some)
  · rw [if_neg (fun h : p = (b, 0) => h2 (by rw [h]))]
    exact ev_neg h2 ev_some
theorem unpack_loop (b : ByteArray) (hb : b.size ≤ 65535) (f m : Nat) (hf : f ≤ b.size) (hm : 2 * (m + 1) ≤ b.size) : ∀ (d i : Nat) (acc : List ByteArray), i ≤ m → m - i = d → acc.length = i → (∀ c ∈ acc, c.size ≤ b.size) →
    Ev (fun k => slot_Unpack.l0 k b (f : Int) (m : Int) acc (i : Int)) (readOf b f d i acc) := by
  intro d
  induction d with
  | zero =>
    intro i acc h1 hd hl hs
    refine ev_step ?_
    simp only [slot_Unpack.l0, Int.toNat_natCast]
    refine ev_neg (by omega) (ev_pos (by omega) (ev_pos (by omega) ?_))
    have hfs : (b.extract 0 f).size = f := by rw [size_extract]; omega
    exact read_end (pack_ev _ _ _ (need_small b hb _ (by omega) acc (by omega) hs))
  | succ d ih =>
    intro i acc h1 hd hl hs
    refine ev_step ?_
    simp only [slot_Unpack.l0]
    rw [w64_succ (by omega)]
    refine ev_pos (by omega) (ev_bind_now (at_eq b i (by omega) hb) (ev_bind_now (at_eq b (i + 1) (by omega) hb) ?_))
    unfold readOf cuts
    by_cases c1 : ent (L b) i > ent (L b) (i + 1)
    · rw [if_pos c1]
      exact ev_pos (by omega) ev_some
    · rw [if_neg c1]
      refine ev_neg (by omega) ?_
      by_cases c2 : ent (L b) (i + 1) > b.size
      · rw [if_pos c2]
        exact ev_pos (by omega) ev_some
      · rw [if_neg c2]
        refine ev_neg (by omega) (ev_pos (by omega) (ev_pos (by omega) ?_))
        rw [Int.toNat_natCast, Int.toNat_natCast]
        refine ih (i + 1) _ (by omega) (by omega) (by simp <;> omega) (fun c hc => ?_)
        rcases List.mem_append.1 hc with hc | hc
        · exact hs c hc
        · obtain rfl := List.mem_singleton.1 hc
          rw [size_extract]
          omega
theorem unpack_ev (b : ByteArray) (f m : Int) : Ev (fun k => slot_Unpack.f k b f m) (unpacked b f m) := by
  unfold slot_Unpack.f unpacked
  by_cases c1 : f < 0
  · rw [if_pos (.inl c1)]
    exact ev_pos c1 ev_some
  refine ev_neg c1 ?_
  by_cases c2 : m < 0
  · rw [if_pos (.inr (.inl c2))]
    exact ev_pos c2 ev_some
  refine ev_neg c2 ?_
  by_cases c3 : (b.size : Int) > 65535
  · rw [if_pos (.inr (.inr c3))]
    exact ev_pos c3 ev_some
  rw [if_neg (by omega)]
  refine ev_neg c3 ?_
  by_cases c4 : f > (b.size : Int)
  · rw [if_pos (.inl c4)]
    exact ev_pos c4 ev_some
  refine ev_neg c4 ?_
  by_cases c5 : m > (b.size : Int) / 2 - 1
  · rw [if_pos (.inr c5)]
    exact ev_pos c5 ev_some
  rw [if_neg (by omega)]
  refine ev_neg c5 ?_
  obtain ⟨f, rfl⟩ := Int.eq_ofNat_of_zero_le (show 0 ≤ f by omega)
  obtain ⟨m, rfl⟩ := Int.eq_ofNat_of_zero_le (show 0 ≤ m by omega)
  rw [Int.toNat_natCast, Int.toNat_natCast]
  exact unpack_loop b (by omega) f m (by omega) (by omega) m 0 [] (Nat.zero_le _) rfl rfl (fun c hc => by cases hc)
theorem runpack_loop (b : ByteArray) (hb : b.size ≤ 65535) (f m : Nat) (hf : f ≤ b.size) (hm : 2 * (m + 1) ≤ b.size) : ∀ (d i : Nat) (acc : List ByteArray), i ≤ m → m - i = d → acc.length = i → (∀ c ∈ acc, c.size ≤ b.size) →
    Ev (fun k => withyref08_Unpack.l0 k b (f : Int) (m : Int) acc (i : Int)) (readOf b f d i acc) := by
  intro d
  induction d with
  | zero =>
    intro i acc h1 hd hl hs
    refine ev_step ?_
    simp only [withyref08_Unpack.l0, Int.toNat_natCast]
    refine ev_neg (by omega) (ev_pos (by omega) (ev_pos (by omega) ?_))
    have hfs : (b.extract 0 f).size = f := by rw [size_extract]; omega
    exact read_end (rpack_ev _ _ _ (need_small b hb _ (by omega) acc (by omega) hs))
  | succ d ih =>
    intro i acc h1 hd hl hs
    refine ev_step ?_
    simp only [withyref08_Unpack.l0]
    rw [w64_succ (by omega)]
    refine ev_pos (by omega) (ev_bind_now (rat_eq b i (by omega) hb) (ev_bind_now (rat_eq b (i + 1) (by omega) hb) ?_))
    unfold readOf cuts
    by_cases c1 : ent (L b) i > ent (L b) (i + 1)
    · rw [if_pos c1]
      exact ev_pos (by omega) ev_some
    · rw [if_neg c1]
      refine ev_neg (by omega) ?_
      by_cases c2 : ent (L b) (i + 1) > b.size
      · rw [if_pos c2]
        exact ev_pos (by omega) ev_some
      · rw [if_neg c2]
        refine ev_neg (by omega) (ev_pos (by omega) (ev_pos (by omega) (ev_pos (by omega) (ev_pos (by omega) ?_))))
        rw [Int.toNat_natCast, Int.toNat_natCast]
        refine ih (i + 1) _ (by omega) (by omega) (by simp <;> omega) (fun c hc => ?_)
        rcases List.mem_append.1 hc with hc | hc
        · exact hs c hc
        · obtain rfl := List.mem_singleton.1 hc
          rw [size_extract]
          omega
theorem runpack_j1 (b : ByteArray) (f m : Int) (h0 : ¬ (f < 0 ∨ m < 0 ∨ (b.size : Int) > 65535)) (t : Bool) (ht : t = decide (f > (b.size : Int) ∨ m > (b.size : Int) / 2 - 1)) : Ev (fun k => withyref08_Unpack.j1 k b f m t) (unpacked b f m) := by
  refine ev_step ?_
  simp only [withyref08_Unpack.j1]
  unfold unpacked
  rw [if_neg h0]
  by_cases h1 : f > (b.size : Int) ∨ m > (b.size : Int) / 2 - 1
  · rw [if_pos h1]
    exact ev_pos (by rw [ht]; exact decide_eq_true h1) ev_some
  · rw [if_neg h1]
    refine ev_neg (by rw [ht]; exact fun h => h1 (of_decide_eq_true h)) ?_
    obtain ⟨f, rfl⟩ := Int.eq_ofNat_of_zero_le (show 0 ≤ f by omega)
    obtain ⟨m, rfl⟩ := Int.eq_ofNat_of_zero_le (show 0 ≤ m by omega)
    rw [Int.toNat_natCast, Int.toNat_natCast]
    exact runpack_loop b (by omega) f m (by omega) (by omega) m 0 [] (Nat.zero_le _) rfl rfl (fun c hc => by cases hc)
theorem runpack_j0 (b : ByteArray) (hb : b.size ≤ 140737488300000) (f m : Int) (t : Bool) (ht : t = decide (f < 0 ∨ m < 0 ∨ (b.size : Int) > 65535)) : Ev (fun k => withyref08_Unpack.j0 k b f m t) (unpacked b f m) := by
  refine ev_step ?_
  simp only [withyref08_Unpack.j0]
  by_cases h0 : f < 0 ∨ m < 0 ∨ (b.size : Int) > 65535
  · unfold unpacked
    rw [if_pos h0]
    exact ev_pos (by rw [ht]; exact decide_eq_true h0) ev_some
  · refine ev_neg (by rw [ht]; exact fun h => h0 (of_decide_eq_true h)) ?_
    rw [w64 (by omega) (by omega)]
    by_cases h1 : f > (b.size : Int)
    · exact ev_pos h1 (runpack_j1 b f m h0 _ (Eq.symm (decide_eq_true (.inl h1))))
    · refine ev_neg h1 (runpack_j1 b f m h0 _ (decide_eq_decide.2 ?_))
      omega
theorem runpack_ev (b : ByteArray) (hb : b.size ≤ 140737488300000) (f m : Int) : Ev (fun k => withyref08_Unpack.f k b f m) (unpacked b f m) := by
  unfold withyref08_Unpack.f
  by_cases c1 : f < 0
  · exact ev_pos c1 (runpack_j0 b hb f m _ (Eq.symm (decide_eq_true (.inl c1))))
  refine ev_neg c1 ?_
  by_cases c2 : m < 0
  · exact ev_pos c2 (runpack_j0 b hb f m _ (Eq.symm (decide_eq_true (.inr (.inl c2)))))
  refine ev_neg c2 (runpack_j0 b hb f m _ (decide_eq_decide.2 ?_))
  omega
end Go.Proofs.Ytkhbmgnjopkeaaa.Spec
