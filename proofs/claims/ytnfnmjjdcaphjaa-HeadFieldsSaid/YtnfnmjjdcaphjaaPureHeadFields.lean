/- What is proved here: the pure statement of HeadFields: each field of a page stands where the document says; its sum is that of all else. Conditions: sizes within the form's reach. -/
import Derived.Test.YtnfnmjjdcaphjaaStmtHeadFields
import Derived.Test.YtnfnmjjdcaphjaaSpec3
set_option linter.unusedVariables false
set_option linter.unusedSimpArgs false
namespace Go.Proofs.Ytnfnmjjdcaphjaa.Pure
open Go.RowKit Go.Proofs.YtnfnmjjdcaphjaaW.PrintWords Go.Proofs.YtnfnmjjdcaphjaaW.PrintLast Go.Proofs.YtnfnmjjdcaphjaaW.PrintMore Go.Proofs.YtnfnmjjdcaphjaaEv Go.Proofs.YtnfnmjjdcaphjaaSum Go.Proofs.YtnfnmjjdcaphjaaHead Go.Proofs.Ytnfnmjjdcaphjaa.P Go.Proofs.Ytnfnmjjdcaphjaa.Spec

theorem HeadFields : withylaw07_HeadFields.Pure := by
  intro ⟨a0, a1, a2, a3, a4⟩ ⟨b, p⟩ hx hy
  have mb := mn_eq (b.size : Int) 1100
  have m1 : (mn (b.size : Int) 1100).toNat = min b.size 1100 := by omega
  refine Ev.rounds ?_
  show Ev (fun k => withylaw07_HeadFields.f k a0 a1 a2 a3 a4 b p) true
  unfold withylaw07_HeadFields.f
  rw [m1]
  refine ev_pos (by omega) (ev_pos (by omega) ?_)
  generalize b.extract 0 (min b.size 1100) = c
  refine ev_bind (seal_ev a0 a1 a2 a3 a4 c p) ?_
  by_cases hc : head_may.code a0 a1 a2 a3 a4 c p = 0
  · obtain ⟨x, P, ok, rfl, rfl, rfl, rfl, rfl, rfl, hP, hb⟩ := code_zero hc
    rw [sealed_of ok hP hb]
    have hcl := L_length c
    have h16 := size16 hP
    have hz := pageB_size (h := x) (b := L c) (p := P) (by omega)
    have hL := pageB_L x (L c) P
    have hg : got (L (pageB x (L c) P)) = x := by rw [hL, got_page ok]
    have h12 : (L (pageB x (L c) P)).drop 12 = le4 (sum x (L c) P) ++ rest (L c) P := by
      rw [hL, page, List.append_assoc, List.drop_left' (front_length x)]
    have hd16 : (L (pageB x (L c) P)).drop 16 = rest (L c) P := by rw [hL, page_drop]
    have ht12 : (L (pageB x (L c) P)).take 12 = front x := by rw [hL, page, List.append_assoc, List.take_left' (front_length x)]
    generalize pageB x (L c) P = q at hz hg h12 hd16 ht12
    have r4 := rread_ev q 4 (by omega) (by omega)
    have r8 := rread_ev q 8 (by omega) (by omega)
    have r12 := rread_ev q 12 (by omega) (by omega)
    have gr : rd4 ((L q).drop 4) = x.r := congrArg Hd.r hg
    have gs : rd4 ((L q).drop 8) = x.s := congrArg Hd.s hg
    have gk : ((L q).getD 0 0).toNat = x.k := congrArg Hd.k hg
    have gl : ((L q).getD 1 0).toNat = x.l := congrArg Hd.l hg
    have gc : ((L q).getD 2 0).toNat + 256 * ((L q).getD 3 0).toNat = x.c := congrArg Hd.c hg
    rw [gr] at r4
    rw [gs] at r8
    rw [h12, rd4_le4 (sum x (L c) P) (crc_lt _)] at r12
    obtain ⟨o1, o2, o3, o4, o5, o6⟩ := ok
    have t0 : bt q 0 = _ := bt_getD q 0
    have t1 : bt q 1 = _ := bt_getD q 1
    have t2 : bt q 2 = _ := bt_getD q 2
    have t3 : bt q 3 = _ := bt_getD q 3
    have e0 : wrap64 (bt q 0) = (x.k : Int) := by rw [t0, gk, w64 (by omega) (by omega)]
    have e1 : wrap64 (bt q 1) = (x.l : Int) := by rw [t1, gl, w64 (by omega) (by omega)]
    have q2 := u8_lt ((L q).getD 2 0)
    have q3 := u8_lt ((L q).getD 3 0)
    have e2 : wrap64 (wrap64 (bt q 2) + wrap64 (256 * wrap64 (bt q 3))) = (x.c : Int) := by
      rw [t2, t3, w64 (x := (((L q).getD 2 0).toNat : Int)) (by omega) (by omega), w64 (x := (((L q).getD 3 0).toNat : Int)) (by omega) (by omega), w64 (x := 256 * (((L q).getD 3 0).toNat : Int)) (by omega) (by omega), w64 (by omega) (by omega)]
      omega
    have z0 : (q.extract 0 12).size = 12 := by rw [size_extract]; omega
    have z16 : (q.extract 16 q.size).size = P - 16 := by rw [size_extract]; omega
    have hsum := rsum_ev ((q.extract 0 12 ++ (⟨#[0, 0, 0, 0]⟩ : ByteArray)) ++ q.extract 16 q.size) (by rw [ByteArray.size_append, ByteArray.size_append, z0, z16, z4_size]; omega)
    have hsl : L ((q.extract 0 12 ++ (⟨#[0, 0, 0, 0]⟩ : ByteArray)) ++ q.extract 16 q.size) = front x ++ [0, 0, 0, 0] ++ rest (L c) P := by
      rw [L_append, L_append, L_to, L_from, ht12, hd16]
    rw [hsl] at hsum
    refine ev_pos rfl (ev_step ?_)
    simp only [withylaw07_HeadFields.j0]
    refine ev_neg (by simp; omega) (ev_bind r4 (ev_bind r8 (ev_bind r12 (ev_pos (by omega) (ev_pos e0 (ev_pos (by omega) (ev_pos e1 (ev_pos (by omega) (ev_pos (by omega) (ev_pos e2 (ev_pos (w64 (by show (-9223372036854775808 : Int) ≤ (x.r : Int); omega) (by show (x.r : Int) ≤ _; omega)) (ev_pos (w64 (by show (-9223372036854775808 : Int) ≤ (x.s : Int); omega) (by show (x.s : Int) ≤ _; omega)) ?_))))))))))))
    exact ev_pos (by first | rfl | trivial) (ev_pos (by first | rfl | trivial) (ev_pos (by first | rfl | trivial) (ev_pos (by omega) (ev_pos (by omega) (ev_pos (by omega) (ev_pos (by omega) (ev_pos (by rw [ByteArray.size_append, z0, z16, z4_size]; omega) (ev_bind hsum (ev_pos rfl (ev_bind fixed_ev ev_some))))))))))
  · rw [sealed_not hc]
    refine ev_neg hc (ev_step ?_)
    simp only [withylaw07_HeadFields.j0]
    exact ev_pos (by first | rfl | trivial) (ev_neg hc (ev_pos (by rw [L_toList]) (ev_bind fixed_ev ev_some)))
end Go.Proofs.Ytnfnmjjdcaphjaa.Pure
