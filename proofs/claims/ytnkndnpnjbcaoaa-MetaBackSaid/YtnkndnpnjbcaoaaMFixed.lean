/- What is proved here: what tearing answers, in the program and in its reference; the law's fixed calls. Conditions: sizes within the form's reach. -/
import Derived.Test.YtnkndnpnjbcaoaaMSpec
set_option linter.unusedVariables false
set_option linter.unusedSimpArgs false
namespace Go.Proofs.Ytnkndnpnjbcaoaa.Spec
open Go.RowKit Go.Proofs.YtnkndnpnjbcaoaaW.PrintWords Go.Proofs.YtnkndnpnjbcaoaaW.PrintLast Go.Proofs.YtnkndnpnjbcaoaaW.PrintMore Go.Proofs.YtnkndnpnjbcaoaaEv Go.Proofs.YtnkndnpnjbcaoaaSum Go.Proofs.YtnkndnpnjbcaoaaHead Go.Proofs.Ytnkndnpnjbcaoaa.P

def tornI (a b : ByteArray) (n : Int) : ByteArray := if a.size = b.size then torn a b (min (max n 0).toNat a.size) else ⟨#[]⟩
theorem tear_eq (a b : ByteArray) (n : Int) (h : a.size ≤ 140737488300000) : meta_Tear.f a b n = some (tornI a b n) := by
  unfold meta_Tear.f tornI
  by_cases hs : a.size = b.size
  · have hx := mx_eq n 0
    have hm := mn_eq (mx n 0) (a.size : Int)
    have hn : (mn (mx n 0) (a.size : Int)).toNat = min (max n 0).toNat a.size := by omega
    have z1 : (a.extract 0 (min (max n 0).toNat a.size)).size = min (max n 0).toNat a.size := by rw [size_extract]; omega
    have z2 : (b.extract (min (max n 0).toNat a.size) b.size).size = a.size - min (max n 0).toNat a.size := by rw [size_extract]; omega
    rw [if_pos (by omega), if_pos (by omega), if_pos (by omega), if_pos (by omega), hn, if_pos (by omega), if_pos hs]
    rfl
  · rw [if_neg (by omega), if_neg hs]
def m0 : Mt := ⟨128, 2, 1, 0, 0⟩
theorem m0_ok : m0.ok := by unfold Mt.ok Size m0; simp
theorem zeros_last (n k : Nat) : (L (zerosB n))[k]? ≠ some 87 := by
  rw [zerosB_L, List.getElem?_replicate]
  split
  · decide
  · simp
theorem zeros_not (n : Nat) : ¬ isMeta (zerosB n) := fun h => zeros_last _ _ (meta_last h)
theorem tornI_eq {a b : ByteArray} (h : a.size = b.size) (n : Nat) (hn : n ≤ a.size) : tornI a b (n : Int) = torn a b n := by
  unfold tornI
  rw [if_pos h, show min (max (n : Int) 0).toNat a.size = n by omega]
theorem fixed_ev : Ev (fun k => withylaw13_fixed.f k) true := by
  unfold withylaw13_fixed.f
  have v1 := enc_ev m0.p m0.g m0.r m0.l m0.n
  rw [enc_of m0_ok] at v1
  have v2 := enc_ev 128 2 2 0 0
  rw [enc_not (by decide)] at v2
  have v3 := enc_ev 0 0 0 0 0
  rw [enc_not (by decide)] at v3
  have hz : (encB m0).size = 128 := encB_size m0_ok
  have hzz := zerosB_size 128
  have d1 := dec_ev (encB m0) (by omega)
  rw [decoded_of m0_ok] at d1
  have d2 := dec_ev (zerosB 128) (by omega)
  rw [decoded_not (zeros_not 128)] at d2
  have t127 : meta_Tear.f (encB m0) (zerosB 128) 127 = some (torn (encB m0) (zerosB 128) 127) := by rw [tear_eq _ _ _ (by omega)]; exact congrArg some (tornI_eq (by omega) 127 (by omega))
  have t128 : meta_Tear.f (encB m0) (zerosB 128) 128 = some (encB m0) := by
    rw [tear_eq _ _ _ (by omega)]
    refine congrArg some ((tornI_eq (by omega) 128 (by omega)).trans (torn_all _ _ _ (by omega) (by omega)))
  have d3 := dec_ev (torn (encB m0) (zerosB 128) 127) (by rw [torn_size _ _ _ (by omega)]; omega)
  rw [decoded_not (torn_not (by omega) (by omega) (zeros_last _ _))] at d3
  have r128 := rrepeat_ev 0 128 (by omega)
  rw [repB_zero] at r128
  have hL : L (encB m0) = page (mhd m0) (mbody m0) 128 := pageB_L _ _ _
  have g0 : bt (encB m0) 0 = 1 := (bt_getD _ 0).trans (by rw [hL]; rfl)
  have g4 : bt (encB m0) 4 = 1 := (bt_getD _ 4).trans (by rw [hL]; rfl)
  have g127 : bt (encB m0) 127 = 87 := (bt_getD _ 127).trans (by
    have := encB_last m0_ok
    rw [List.getD_eq_getElem?_getD, show (127 : Nat) = m0.p - 1 from rfl, this]
    rfl)
  have h16 : L ((encB m0).extract 16 22) = [119, 105, 116, 104, 121, 128] := by
    rw [L_extract, hL, page_drop]
    rfl
  have k1 : L (torn ⟨#[97, 98, 99]⟩ ⟨#[120, 121, 122]⟩ 1) = [97, 121, 122] := by rw [torn_L]; rfl
  have k2 : L (torn ⟨#[97, 98, 99]⟩ ⟨#[120, 121, 122]⟩ 0) = [120, 121, 122] := by rw [torn_L]; rfl
  have k3 : L (torn ⟨#[97, 98, 99]⟩ ⟨#[120, 121, 122]⟩ 3) = [97, 98, 99] := by rw [torn_L]; rfl
  have q1 : meta_Tear.f ⟨#[97, 98, 99]⟩ ⟨#[120, 121, 122]⟩ 1 = some (torn ⟨#[97, 98, 99]⟩ ⟨#[120, 121, 122]⟩ 1) := tear_eq _ _ _ (by show 3 ≤ _; omega)
  have q2 : meta_Tear.f ⟨#[97, 98, 99]⟩ ⟨#[120, 121, 122]⟩ (-1) = some (torn ⟨#[97, 98, 99]⟩ ⟨#[120, 121, 122]⟩ 0) := tear_eq _ _ _ (by show 3 ≤ _; omega)
  have q3 : meta_Tear.f ⟨#[97, 98, 99]⟩ ⟨#[120, 121, 122]⟩ 9 = some (torn ⟨#[97, 98, 99]⟩ ⟨#[120, 121, 122]⟩ 3) := tear_eq _ _ _ (by show 3 ≤ _; omega)
  have q4 : meta_Tear.f ⟨#[97]⟩ ⟨#[]⟩ 1 = some ⟨#[]⟩ := tear_eq _ _ _ (by show 1 ≤ _; omega)
  generalize encB m0 = s at v1 hz d1 t127 t128 d3 g0 g4 g127 h16
  generalize torn s (zerosB 128) 127 = t at t127 d3
  generalize zerosB 128 = z at d2 t127 t128 r128
  generalize torn ⟨#[97, 98, 99]⟩ ⟨#[120, 121, 122]⟩ 1 = y1 at k1 q1
  generalize torn ⟨#[97, 98, 99]⟩ ⟨#[120, 121, 122]⟩ 0 = y2 at k2 q2
  generalize torn ⟨#[97, 98, 99]⟩ ⟨#[120, 121, 122]⟩ 3 = y3 at k3 q3
  refine ev_bind v1 (ev_bind v2 (ev_bind v3 (ev_pos rfl (ev_step ?_))))
  simp only [withylaw13_fixed.j0]
  refine ev_neg (by simp [hz]) (ev_bind d1 (ev_bind r128 (ev_bind d2 (ev_bind r128 (ev_bind_now t127 (ev_bind d3 (ev_bind r128 (ev_bind_now t128 (ev_bind d1 ?_)))))))))
  refine ev_pos (by omega) (ev_pos g0 (ev_pos (by omega) (ev_pos g4 (ev_pos (by first | trivial | omega) (ev_pos (by omega) (ev_pos (by rw [L_toList]; exact h16) (ev_pos (by omega) (ev_pos g127 ?_))))))))
  refine ev_pos (by first | rfl | trivial) (ev_pos (by first | rfl | trivial) (ev_pos (by first | rfl | trivial) (ev_pos rfl (ev_pos rfl (ev_pos rfl (ev_pos rfl ?_))))))
  refine ev_bind_now q1 (ev_pos (by rw [L_toList]; exact k1) (ev_bind_now q2 (ev_pos (by rw [L_toList]; exact k2) (ev_bind_now q3 (ev_pos (by rw [L_toList]; exact k3) (ev_bind_now q4 (ev_pos (by rw [L_toList]) ?_)))))))
  exact ev_bind_now (may_eq _ _ _ _ _) (ev_pos (by decide) (ev_bind_now (may_eq _ _ _ _ _) (ev_some' (by decide))))
end Go.Proofs.Ytnkndnpnjbcaoaa.Spec
