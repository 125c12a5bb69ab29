/- What is proved here: the pure statement of HeadBurst: a page of which at most four bytes, one behind the other, are other ones, is none. Conditions: sizes within the form's reach. -/
import Derived.Test.YtnfnmjjdcaphjaaStmtHeadBurst
import Derived.Test.YtnfnmjjdcaphjaaFixed
import Derived.Test.YtnfnmjjdcaphjaaBurst2
set_option linter.unusedVariables false
set_option linter.unusedSimpArgs false
namespace Go.Proofs.Ytnfnmjjdcaphjaa.Pure
open Go.RowKit Go.Proofs.YtnfnmjjdcaphjaaW.PrintWords Go.Proofs.YtnfnmjjdcaphjaaW.PrintLast Go.Proofs.YtnfnmjjdcaphjaaW.PrintMore Go.Proofs.YtnfnmjjdcaphjaaEv Go.Proofs.YtnfnmjjdcaphjaaSum Go.Proofs.YtnfnmjjdcaphjaaHead Go.Proofs.YtnfnmjjdcaphjaaBurst Go.Proofs.Ytnfnmjjdcaphjaa.P Go.Proofs.Ytnfnmjjdcaphjaa.Spec
theorem burst_L (xs : List Int) : L (strOfNums xs) = xs.map (fun n => UInt8.ofNat n.toNat) := by
  show (strOfNums xs).data.toList = _
  rw [strOfNums_data]
theorem burst_size (s : ByteArray) (a m : Nat) (xs : Nat → Int) : (strOfNums (burst_list s a m xs)).size = s.size := by
  rw [← L_length, burst_L, List.length_map, burst_len]
theorem burst_out (s : ByteArray) (a m : Nat) (xs : Nat → Int) (i : Nat) (h : ¬ (a ≤ i ∧ i < a + m)) : (L (strOfNums (burst_list s a m xs)))[i]? = (L s)[i]? := by
  by_cases hi : i < s.size
  · have hl : i < (L s).length := by rw [L_length]; exact hi
    rw [burst_L, List.getElem?_map, burst_list, List.getElem?_map, List.getElem?_range hi, List.getElem?_eq_getElem hl]
    show some (UInt8.ofNat (burst_byte s a m xs i).toNat) = _
    unfold burst_byte
    rw [if_neg h, bt_getD, List.getD_eq_getElem?_getD, List.getElem?_eq_getElem hl]
    simp
  · rw [List.getElem?_eq_none (by rw [L_length, burst_size]; omega), List.getElem?_eq_none (by rw [L_length]; omega)]
theorem burst_cut (l : List UInt8) (a m : Nat) : l = l.take a ++ (l.drop a).take m ++ l.drop (a + m) := by
  rw [List.append_assoc, ← List.drop_drop, List.take_append_drop, List.take_append_drop]
theorem burst_same {s : ByteArray} (hs : isPage s) (h128 : s.size = 128) {a m : Nat} {xs : Nat → Int} (ha : a < 128) (hm : m = min 4 (burst_high a - a)) (hb : isPage (strOfNums (burst_list s a m xs))) : L (strOfNums (burst_list s a m xs)) = L s := by
  have hh : m ≤ 4 ∧ a + m ≤ 128 ∧ (16 ≤ a ∨ (12 ≤ a ∧ a + m ≤ 16) ∨ a + m ≤ 12) := by
    unfold burst_high at hm
    split at hm
    · omega
    · split at hm <;> omega
  obtain ⟨h4, hz, hr⟩ := hh
  have l1 : (L s).length = 128 := by rw [L_length]; exact h128
  have hz2 := burst_size s a m xs
  have ho := burst_out s a m xs
  generalize strOfNums (burst_list s a m xs) = b at hb hz2 ho ⊢
  have l2 : (L b).length = 128 := by rw [L_length]; omega
  have t1 : (L b).take a = (L s).take a := by
    refine List.ext_getElem? fun i => ?_
    rw [List.getElem?_take, List.getElem?_take]
    split
    · exact ho i (by omega)
    · rfl
  have t2 : (L b).drop (a + m) = (L s).drop (a + m) := by
    refine List.ext_getElem? fun i => ?_
    rw [List.getElem?_drop, List.getElem?_drop]
    exact ho _ (by omega)
  have lA : ((L s).take a).length = a := by rw [List.length_take]; omega
  have lx : (((L s).drop a).take m).length = m := by rw [List.length_take, List.length_drop]; omega
  have ly : (((L b).drop a).take m).length = m := by rw [List.length_take, List.length_drop]; omega
  refine burst_page hs hb (burst_cut (L s) a m) (A := (L s).take a) (y := ((L b).drop a).take m) (B := (L s).drop (a + m)) ?_ (by omega) (by omega) (by omega)
  rw [← t1, ← t2]
  exact burst_cut (L b) a m
theorem HeadBurst : withylaw07_HeadBurst.Pure := by
  intro ⟨a0, a1, a2, a3, a4⟩ b ⟨c, x1, x2, x3, x4⟩ hx hy hz
  have hc : 0 ≤ c ∧ c ≤ 255 := Go.Proofs.YtnfnmjjdcaphjaaEv.wf_u8 hz.1
  refine Ev.rounds ?_
  show Ev (fun k => withylaw07_HeadBurst.f k a0 a1 a2 a3 a4 b c x1 x2 x3 x4) true
  unfold withylaw07_HeadBurst.f
  refine ev_pos hc ?_
  generalize hq : b.extract 0 (min b.size 112) = q
  refine ev_bind (seal_ev a0 a1 a2 a3 a4 q 128) ?_
  by_cases h0 : head_may.code a0 a1 a2 a3 a4 q 128 = 0
  · obtain ⟨x, P, ok, rfl, rfl, rfl, rfl, rfl, hP8, hP, hb⟩ := code_zero h0
    have hP9 : P = 128 := by omega
    subst hP9
    have hse := sealed_of ok (b := q) hP hb
    have hse2 : sealed x.k x.l x.c x.r x.s q 128 = (pageB x (L q) 128, 0) := hse
    rw [hse2]
    have hql := L_length q
    have hsz : (pageB x (L q) 128).size = 128 := pageB_size (by omega)
    have hpg : isPage (pageB x (L q) 128) := isPage_of ok hP (by omega)
    generalize pageB x (L q) 128 = s at hsz hpg
    have ha : (c % 128).toNat < 128 := by omega
    generalize (c % 128).toNat = a at ha
    refine ev_pos rfl (ev_pos hsz ?_)
    show Ev (fun k => (head_Open.f k (strOfNums (burst_list s a (min 4 (burst_high a - a)) (burst_x x1 x2 x3 x4)))).bind fun o => _) true
    have hsame := fun hb => burst_same hpg hsz (xs := burst_x x1 x2 x3 x4) ha rfl hb
    have hbs := burst_size s a (min 4 (burst_high a - a)) (burst_x x1 x2 x3 x4)
    generalize strOfNums (burst_list s a (min 4 (burst_high a - a)) (burst_x x1 x2 x3 x4)) = t at hsame hbs ⊢
    refine ev_bind (open_ev t (by omega)) (ev_pos ?_ fixed_ev)
    by_cases hp : isPage t
    · rw [opened_page hp]
      have e := hsame hp
      show decide ((0 : Int) = 0) = decide (t.toList = s.toList)
      rw [L_toList, L_toList, e]
      simp
    · rw [opened_none hp]
      have hne : ¬ t.toList = s.toList := fun e => hp (by rw [L_toList, L_toList] at e; rw [L_inj e]; exact hpg)
      rw [decide_eq_false hne]
      exact decide_eq_false (by decide)
  · rw [sealed_not h0]
    exact ev_neg h0 fixed_ev
end Go.Proofs.Ytnfnmjjdcaphjaa.Pure
