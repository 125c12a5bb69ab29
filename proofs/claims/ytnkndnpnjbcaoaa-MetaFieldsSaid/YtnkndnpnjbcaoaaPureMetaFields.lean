/- What is proved here: the pure statement of MetaFields: each field of a meta stands where the document says, and nothing else but bytes 0, and the last one. Conditions: sizes within the form's reach. -/
import Derived.Test.YtnkndnpnjbcaoaaStmtMetaFields
import Derived.Test.YtnkndnpnjbcaoaaMRef
set_option linter.unusedVariables false
set_option linter.unusedSimpArgs false
namespace Go.Proofs.Ytnkndnpnjbcaoaa.Pure
open Go.RowKit Go.Proofs.YtnkndnpnjbcaoaaW.PrintWords Go.Proofs.YtnkndnpnjbcaoaaW.PrintLast Go.Proofs.YtnkndnpnjbcaoaaW.PrintMore Go.Proofs.YtnkndnpnjbcaoaaEv Go.Proofs.YtnkndnpnjbcaoaaSum Go.Proofs.YtnkndnpnjbcaoaaHead Go.Proofs.Ytnkndnpnjbcaoaa.P Go.Proofs.Ytnkndnpnjbcaoaa.Spec

theorem MetaFields : withylaw13_MetaFields.Pure := by
  intro ⟨a0, a1, a2, a3, a4⟩ hx
  refine Ev.rounds ?_
  show Ev (fun k => withylaw13_MetaFields.f k a0 a1 a2 a3 a4) true
  unfold withylaw13_MetaFields.f
  refine ev_bind (enc_ev a0 a1 a2 a3 a4) ?_
  by_cases h1 : mayI a0 a1 a2 a3 a4 = true
  · obtain ⟨m, ok, rfl, rfl, rfl, rfl, rfl⟩ := may_mt h1
    rw [enc_of ok]
    have hz := encB_size ok
    have h16 := size16 ok.1
    have hml := mbody_length ok
    have hmg := mgot_encB ok
    have hp5 : rd4 ((mbody m).drop 5) = m.p := by have := congrArg Mt.p hmg; unfold mgot at this; rw [body_encB ok] at this; exact this
    have hp9 : rd4 ((mbody m).drop 9) = m.g := by have := congrArg Mt.g hmg; unfold mgot at this; rw [body_encB ok] at this; exact this
    have hp13 : rd4 ((mbody m).drop 13) = m.n := by have := congrArg Mt.n hmg; unfold mgot at this; rw [body_encB ok] at this; exact this
    have ho : opened (encB m) = told (mhd m) ⟨(rest (mbody m) m.p).toArray⟩ := opened_of (mhd_ok ok) ok.1 (by omega)
    have hv := ropen_ev (encB m) (by omega)
    rw [ho, rest_mbody ok] at hv
    have hBL : L (⟨(mbody m).toArray⟩ : ByteArray) = mbody m := L_mk _
    generalize (⟨(mbody m).toArray⟩ : ByteArray) = B at hv hBL
    have hB := L_length B
    rw [hBL] at hB
    have v5 := rread_ev B 5 (by omega) (by omega)
    have v9 := rread_ev B 9 (by omega) (by omega)
    have v13 := rread_ev B 13 (by omega) (by omega)
    rw [hBL, hp5] at v5
    rw [hBL, hp9] at v9
    rw [hBL, hp13] at v13
    obtain ⟨o0, o1, o2, o3, o4, o5, o6⟩ := id ok
    refine ev_pos rfl (ev_step ?_)
    simp only [withylaw13_MetaFields.j0]
    refine ev_neg (by simp; omega) (ev_bind hv (ev_bind v5 (ev_bind v9 (ev_bind v13 (ev_pos rfl (ev_pos rfl (ev_pos rfl (ev_pos rfl (ev_pos rfl (ev_pos rfl ?_))))))))))
    show Ev (fun k => withylaw13_MetaFields.j1 k B m.p m.g m.n ((B.size : Int) != wrap64 ((m.p : Int) - 16)) m.p m.g m.r m.l m.n) true
    have hne : ((B.size : Int) != wrap64 ((m.p : Int) - 16)) = false := by
      rw [w64 (by omega) (by omega)]
      simp
      omega
    rw [hne]
    refine ev_step ?_
    simp only [withylaw13_MetaFields.j1]
    have hlast : (mbody m)[B.size - 1]? = some 87 := by
      have h2 : (mhead m ++ List.replicate (m.p - 34) (0 : UInt8)).length = m.p - 17 := by
        rw [List.length_append, mhead_length, List.length_replicate]
        omega
      unfold mbody
      rw [List.getElem?_append_right (by omega), h2, show B.size - 1 - (m.p - 17) = 0 by omega]
      rfl
    have hmid : ((mbody m).drop 17).take (B.size - 1 - 17) = List.replicate (m.p - 34) 0 := by
      unfold mbody
      rw [List.append_assoc, List.drop_left' (mhead_length m), List.take_left' (by rw [List.length_replicate]; omega)]
    rw [w64 (x := (m.p : Int)) (by omega) (by omega), w64 (x := (m.g : Int)) (by omega) (by omega), w64 (x := (m.n : Int)) (by omega) (by omega), w64 (x := (B.size : Int) - 1) (by omega) (by omega), w64 (x := (B.size : Int) - 18) (by omega) (by omega), show (B.size : Int) - 18 = ((m.p - 34 : Nat) : Int) by omega, show (B.size : Int) - 1 = ((B.size - 1 : Nat) : Int) by omega, Int.toNat_natCast]
    refine ev_neg (by decide) (ev_pos (by omega) (ev_pos (by omega) (ev_pos ?_ (ev_pos (by first | rfl | trivial) (ev_pos (by first | rfl | trivial) (ev_pos (by first | rfl | trivial) (ev_pos (by omega) (ev_pos (by omega) (ev_bind (rrepeat_ev 0 _ (by omega)) (ev_pos ?_ (ev_pos (by omega) (ev_pos (by omega) (ev_pos ?_ (ev_bind fixed_ev ev_some))))))))))))))
    · rw [L_toList, L_to, hBL]
      rfl
    · rw [L_toList, L_toList, L_extract, hBL, hmid, repB_L]
      rfl
    · rw [bt_getD, hBL, List.getD_eq_getElem?_getD, hlast]
      rfl
  · rw [enc_not h1]
    refine ev_neg (by decide) (ev_step ?_)
    simp only [withylaw13_MetaFields.j0]
    exact ev_pos (by first | rfl | trivial) (ev_pos (by first | rfl | trivial) (ev_pos (by rw [L_toList]) (ev_bind fixed_ev ev_some)))
end Go.Proofs.Ytnkndnpnjbcaoaa.Pure
