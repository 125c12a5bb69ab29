/- What is proved here: what the functions of meta's reference answer. Conditions: sizes within the form's reach. -/
import Derived.Test.YtnkndnpnjbcaoaaMFixed
import Derived.Test.YtnkndnpnjbcaoaaRef
set_option linter.unusedVariables false
set_option linter.unusedSimpArgs false
namespace Go.Proofs.Ytnkndnpnjbcaoaa.Spec
open Go.RowKit Go.Proofs.YtnkndnpnjbcaoaaW.PrintWords Go.Proofs.YtnkndnpnjbcaoaaW.PrintLast Go.Proofs.YtnkndnpnjbcaoaaW.PrintMore Go.Proofs.YtnkndnpnjbcaoaaEv Go.Proofs.YtnkndnpnjbcaoaaSum Go.Proofs.YtnkndnpnjbcaoaaHead Go.Proofs.Ytnkndnpnjbcaoaa.P

theorem rmay_eq (a0 a1 a2 a3 a4 : Int) : withyref13_May.f a0 a1 a2 a3 a4 = some (mayI a0 a1 a2 a3 a4) := by
  have h := mayI_iff a0 a1 a2 a3 a4
  have hz := sized_iff a0
  unfold withyref13_May.f
  rw [rsized_eq, Option.bind_some]
  cases hr : mayI a0 a1 a2 a3 a4
  · rw [hr] at h
    have h' : ¬ ((a0 = 128 ∨ a0 = 256 ∨ a0 = 512 ∨ a0 = 1024) ∧ 2 ≤ a1 ∧ a1 ≤ 4096 ∧ 1 ≤ a2 ∧ a2 < a1 ∧ 0 ≤ a3 ∧ a3 < 256 ∧ 0 ≤ a4 ∧ a4 ≤ 2147483647) := fun e => Bool.noConfusion (h.2 e)
    by_cases h1 : head_may.sized a0 = true
    · have h1' := hz.1 h1
      rw [if_pos h1]
      repeat' split
      all_goals first | rfl | (refine congrArg some (decide_eq_false ?_); omega)
    · rw [if_neg h1]
  · have h' := h.1 hr
    rw [if_pos (hz.2 h'.1), if_pos (by omega), if_pos (by omega), if_pos (by omega), if_pos (by omega), if_pos (by omega), if_pos (by omega), if_pos (by omega)]
    exact congrArg some (decide_eq_true (by omega))
theorem rseal_meta {m : Mt} (ok : m.ok) (b : ByteArray) (hb : L b = mbody m) : Ev (fun k => withyref07_Seal.f k 1 m.l 0 m.r 0 b m.p) (encB m, 0) := by
  have hl := mbody_length ok
  have hbs := L_length b
  have v := rseal_ev (mhd m).k (mhd m).l (mhd m).c (mhd m).r (mhd m).s b m.p
  rw [sealed_of (mhd_ok ok) ok.1 (by rw [← hbs, hb]; omega), hb] at v
  exact v
theorem renc_ev (a0 a1 a2 a3 a4 : Int) : Ev (fun k => withyref13_Encode.f k a0 a1 a2 a3 a4) (enc a0 a1 a2 a3 a4) := by
  unfold withyref13_Encode.f
  by_cases h : mayI a0 a1 a2 a3 a4 = true
  · refine ev_bind_now (rmay_eq _ _ _ _ _) (ev_pos h ?_)
    obtain ⟨m, ok, rfl, rfl, rfl, rfl, rfl⟩ := may_mt h
    rw [enc_of ok]
    have hp := size16 ok.1
    obtain ⟨h0, h1, h2, h3, h4, h5, h6⟩ := id ok
    rw [show (m.p : Int) % 4294967296 = (m.p : Int) by omega, show (m.g : Int) % 4294967296 = (m.g : Int) by omega, show (m.n : Int) % 4294967296 = (m.n : Int) by omega]
    refine ev_bind_now (rfour_eq _ (by omega)) (ev_pos (by rw [fourB_size]; omega) (ev_bind_now (rfour_eq _ (by omega)) (ev_pos (by rw [fourB_size, ByteArray.size_append, fourB_size]; show 5 + 4 + 4 ≤ _; omega) (ev_bind_now (rfour_eq _ (by omega)) (ev_pos (by rw [fourB_size, ByteArray.size_append, ByteArray.size_append, fourB_size, fourB_size]; show 5 + 4 + 4 + 4 ≤ _; omega) ?_)))))
    have hw : (((⟨#[119, 105, 116, 104, 121]⟩ : ByteArray) ++ fourB m.p) ++ fourB m.g) ++ fourB m.n = wholeB m := rfl
    rw [hw, w64 (x := (m.p : Int) - 16) (by omega) (by omega), w64 (x := (m.p : Int) - 16 - 17) (by omega) (by omega), w64 (by omega) (by omega), show (m.p : Int) - 16 - 17 - 1 = ((m.p - 34 : Nat) : Int) by omega]
    have hs := wholeB_size m
    refine ev_bind (rrepeat_ev 0 _ (by omega)) (ev_pos (by rw [repB_size]; omega) (ev_pos (by rw [ByteArray.size_append, repB_size]; omega) (ev_bind (rseal_meta ok _ ?_) ev_some)))
    rw [L_append, L_append, wholeB_L, repB_L]
    rfl
  · rw [enc_not h]
    exact ev_bind_now (rmay_eq _ _ _ _ _) (ev_neg h ev_some)
theorem rdec_ev (s : ByteArray) (hsz : s.size ≤ 140737488300000) : Ev (fun k => withyref13_Decode.f k s) (decoded s) := by
  unfold withyref13_Decode.f
  refine ev_bind (ropen_ev s hsz) ?_
  by_cases hp : isPage s
  · rw [opened_page hp]
    refine ev_pos rfl ?_
    have h16 := size16 hp.1
    have hb := body_size (s := s) (by omega)
    have v5 : Ev (fun k => withyref01_Read.f k (body s) 5) (((mgot s).p : Int), 0) := rread_ev (body s) 5 (by omega) (by omega)
    have v9 : Ev (fun k => withyref01_Read.f k (body s) 9) (((mgot s).g : Int), 0) := rread_ev (body s) 9 (by omega) (by omega)
    have v13 : Ev (fun k => withyref01_Read.f k (body s) 13) (((mgot s).n : Int), 0) := rread_ev (body s) 13 (by omega) (by omega)
    have l5 : (mgot s).p < 4294967296 := rd4_lt _
    have l9 : (mgot s).g < 4294967296 := rd4_lt _
    have l13 : (mgot s).n < 4294967296 := rd4_lt _
    refine ev_bind v5 (ev_bind v9 (ev_bind v13 ?_))
    show Ev (fun k => (withyref13_Encode.f k (wrap64 ((mgot s).p : Int)) (wrap64 ((mgot s).g : Int)) (mgot s).r (mgot s).l (wrap64 ((mgot s).n : Int))).bind fun bt240 => (if bt240.2 = 0 then (if bt240.1.toList = s.toList then (some (wrap64 ((mgot s).p : Int), wrap64 ((mgot s).g : Int), ((mgot s).r : Int), ((mgot s).l : Int), wrap64 ((mgot s).n : Int), 0)) else (some (0, 0, 0, 0, 0, 3))) else (some (0, 0, 0, 0, 0, 3)))) _
    rw [w64 (x := ((mgot s).p : Int)) (by omega) (by omega), w64 (x := ((mgot s).g : Int)) (by omega) (by omega), w64 (x := ((mgot s).n : Int)) (by omega) (by omega)]
    refine ev_bind (renc_ev (mgot s).p (mgot s).g (mgot s).r (mgot s).l (mgot s).n) ?_
    unfold decoded
    rcases enc_got s with ⟨hm, e⟩ | ⟨hm, e⟩
    · rw [e, if_pos hm]
      exact ev_pos rfl (ev_pos rfl ev_some)
    · rw [if_neg hm]
      by_cases h2 : (enc (mgot s).p (mgot s).g (mgot s).r (mgot s).l (mgot s).n).2 = 0
      · rcases e with e | e
        · exact absurd h2 e
        · exact ev_pos h2 (ev_neg (by rw [L_toList, L_toList]; exact e) ev_some)
      · exact ev_neg h2 ev_some
  · rw [opened_none hp]
    have hd : decoded s = noM := if_neg (fun h => hp (isMeta_page h))
    rw [hd]
    exact ev_neg (by decide) ev_some
theorem tear_list_L (a b : ByteArray) (n : Nat) (h : a.size = b.size) (hn : n ≤ a.size) : strOfNums (tear_list a b n) = torn a b n := by
  have ha := L_length a
  have hb := L_length b
  refine L_inj ?_
  rw [torn_L]
  show (strOfNums _).data.toList = _
  rw [strOfNums_data]
  apply List.ext_getElem
  · simp [tear_list]
    omega
  · intro i h1 h2
    have hi : i < b.size := by simpa [tear_list] using h1
    simp only [tear_list, List.getElem_map, List.getElem_range, tear_mix]
    by_cases hin : i < n
    · rw [if_pos hin, List.getElem_append_left (by rw [List.length_take]; omega), List.getElem_take, bt_L a i (by omega), Int.toNat_natCast, UInt8.ofNat_toNat]
    · rw [if_neg hin, List.getElem_append_right (by rw [List.length_take]; omega), List.getElem_drop, bt_L b i (by omega), Int.toNat_natCast, UInt8.ofNat_toNat]
      congr 1
      rw [List.length_take]
      omega
theorem rtear_eq (a b : ByteArray) (n : Int) (h : b.size ≤ 140737488300000) : withyref13_Tear.f a b n = some (tornI a b n) := by
  unfold withyref13_Tear.f tornI
  rw [if_pos h]
  by_cases hs : a.size = b.size
  · rw [if_pos hs, if_pos hs, show min n.toNat b.size = min (max n 0).toNat a.size by omega, tear_list_L a b _ hs (by omega)]
  · rw [if_neg hs, if_neg hs]
end Go.Proofs.Ytnkndnpnjbcaoaa.Spec
