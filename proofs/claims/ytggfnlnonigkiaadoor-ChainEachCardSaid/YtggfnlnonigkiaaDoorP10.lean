/- What is proved here: for functions of the Go text, a Lean function each, and that the call comes to just what it answers. Conditions: as each contract names them. Written by wip/tools/myprint.py, a driver of the print of the kit. -/
import Derived.Test.YtggfnlnonigkiaaDoorP0
import Derived.Test.YtggfnlnonigkiaaDoorP1
import Derived.Test.YtggfnlnonigkiaaDoorP2
import Derived.Test.YtggfnlnonigkiaaDoorP4
import Derived.Test.YtggfnlnonigkiaaDoorP8
import Derived.Test.YtggfnlnonigkiaaDoorP9
import Derived.Test.YtggfnlnonigkiaaDoorWAbbr
namespace Go.Proofs.YtggfnlnonigkiaaDoor.P
open Go.RowKit Go.Proofs.YtggfnlnonigkiaaDoorW.PrintWords Go.Proofs.YtggfnlnonigkiaaDoorW.PrintLast Go.Proofs.YtggfnlnonigkiaaDoorW.PrintMore Go.Proofs.YtggfnlnonigkiaaDoorW.Abbr
-- PACKED
attribute [local go_sem] max2_int min2_int max_two min_two max_three min_three max_four min_four Go.Proofs.YtggfnlnonigkiaaDoorLaws.str_leq Go.Proofs.YtggfnlnonigkiaaDoorLaws.str_gtr Go.Proofs.YtggfnlnonigkiaaDoorLaws.str_geq Go.Proofs.YtggfnlnonigkiaaDoorLaws.max2_str Go.Proofs.YtggfnlnonigkiaaDoorLaws.min2_str   -- for this text's walks alone
set_option linter.unusedVariables false
set_option linter.unusedSimpArgs false

attribute [local go_sem high] eqA23
/-! ### withylaw12_ChainBack: function 3 -/
def withylaw12_ChainBack.j0 : Nat → ByteArray → Option (Bool)
 | 0, _ => none
 | k + 1, x2 => (chain_Decode.f k x2).bind fun bt235 => (if bt235.2.2.2 = 0 then ((chain_Encode.f k bt235.1 bt235.2.1 bt235.2.2.1 (x2.size : Int)).bind fun bt240 => (if bt240.2 = 0 then (if bt240.1.toList = x2.toList then ((withylaw12_fixed.f k).bind fun t242 => (some t242)) else (none)) else (none))) else (if bt235.2.2.2 = 3 then (if (bt235.1 == 0 && (bt235.2.1 == 0 && (bt235.2.2.1.toList == ([] : List UInt8)))) = true then ((withylaw12_fixed.f k).bind fun t243 => (some t243)) else (none)) else (none)))
def withylaw12_ChainBack.f (k : Nat) (a0_0 : Int) (a0_1 : Int) (a0_2 : ByteArray) (a1 : Int) (a2 : ByteArray) : Option (Bool) := (withylaw12_Cut.f a0_0 a0_1 a0_2).bind fun bt224 => (if 0 ≤ (mn (a2.size : Int) 1100) then (if (mn (a2.size : Int) 1100) ≤ (a2.size : Int) then ((chain_Encode.f k bt224.1 bt224.2.1 bt224.2.2 a1).bind fun bt227 => ((chain_May.f bt224.1 bt224.2.1 bt224.2.2 a1).bind fun t229 => (if ((bt227.2 == 0) != t229) = true then (none) else (if bt227.2 = 0 then ((chain_Decode.f k bt227.1).bind fun bt230 => (if bt230.2.2.2 = 0 then (if (!(bt230.1 == bt224.1) || (!(bt230.2.1 == bt224.2.1) || (!(bt230.2.2.1.toList == bt224.2.2.toList)))) = true then (none) else (if (bt227.1.size : Int) = a1 then (withylaw12_ChainBack.j0 k (a2.extract 0 ((mn (a2.size : Int) 1100) : Int).toNat)) else (none))) else (none))) else (withylaw12_ChainBack.j0 k (a2.extract 0 ((mn (a2.size : Int) 1100) : Int).toNat)))))) else (none)) else (none))
theorem withylaw12_ChainBack.mono_l : ∀ k, (∀ y0, LeO (withylaw12_ChainBack.j0 k y0) (withylaw12_ChainBack.j0 (k + 1) y0))
 | 0 => fun _ r h => by simp [withylaw12_ChainBack.j0] at h
 | k + 1 => by
  have ih0 := withylaw12_ChainBack.mono_l k
  ·intro y0
   unfold withylaw12_ChainBack.j0
   repeat' first
   | (with_reducible exact ih0 _)
   | (with_reducible exact chain_Decode.mono _ _)
   | (with_reducible exact chain_Encode.mono _ _ _ _ _)
   | (with_reducible exact withylaw12_fixed.mono _)
   | (with_reducible exact LeO.refl _)
   | (with_reducible exact LeO.none _)
   | (with_reducible refine LeO.ite ?_ ?_)
   | (with_reducible refine LeO.bind ?_ (fun _ => ?_))
   | exact ih0 _
   | exact chain_Decode.mono _ _
   | exact chain_Encode.mono _ _ _ _ _
   | exact withylaw12_fixed.mono _
   | exact LeO.none _
   | refine LeO.ite ?_ ?_
   | refine LeO.bind ?_ (fun _ => ?_)
theorem withylaw12_ChainBack.mono : ∀ a0 a1 a2 a3 a4 k, LeO (withylaw12_ChainBack.f k a0 a1 a2 a3 a4) (withylaw12_ChainBack.f (k + 1) a0 a1 a2 a3 a4) := by
 intro a0 a1 a2 a3 a4 k
 have ih0 := withylaw12_ChainBack.mono_l k
 unfold withylaw12_ChainBack.f
 repeat' first
   | (with_reducible exact ih0 _)
   | (with_reducible exact chain_Decode.mono _ _)
   | (with_reducible exact chain_Encode.mono _ _ _ _ _)
   | (with_reducible exact withylaw12_fixed.mono _)
   | (with_reducible exact LeO.refl _)
   | (with_reducible exact LeO.none _)
   | (with_reducible refine LeO.ite ?_ ?_)
   | (with_reducible refine LeO.bind ?_ (fun _ => ?_))
   | exact ih0 _
   | exact chain_Decode.mono _ _
   | exact chain_Encode.mono _ _ _ _ _
   | exact withylaw12_fixed.mono _
   | exact LeO.none _
   | refine LeO.ite ?_ ?_
   | refine LeO.bind ?_ (fun _ => ?_)
set_option maxHeartbeats 8000000 in
set_option maxRecDepth 100000 in
theorem withylaw12_ChainBack.calls (k : Nat) (a0_0 : Int) (a0_1 : Int) (a0_2 : ByteArray) (a1 : Int) (a2 : ByteArray) (r : Bool) (w : World) (h : withylaw12_ChainBack.f k a0_0 a0_1 a0_2 a1 a2 = some r) :
  Calls Tryd.prog 3 #[.agg #[.int .i64 a0_0, .int .i64 a0_1, .string a0_2], .int .i64 a1, .string a2] w fun e w' => e = .returned (.bool r) ∧ Below w.heap.size w w' := by
 have hu23 := Tryd.underlying23
 have HB := as_ (Below.refl w.heap.size w)
 have H : ((withylaw12_Cut.f a0_0 a0_1 a0_2).bind fun bt224 => (if 0 ≤ (mn (a2.size : Int) 1100) then (if (mn (a2.size : Int) 1100) ≤ (a2.size : Int) then ((chain_Encode.f k bt224.1 bt224.2.1 bt224.2.2 a1).bind fun bt227 => ((chain_May.f bt224.1 bt224.2.1 bt224.2.2 a1).bind fun t229 => (if ((bt227.2 == 0) != t229) = true then (none) else (if bt227.2 = 0 then ((chain_Decode.f k bt227.1).bind fun bt230 => (if bt230.2.2.2 = 0 then (if (!(bt230.1 == bt224.1) || (!(bt230.2.1 == bt224.2.1) || (!(bt230.2.2.1.toList == bt224.2.2.toList)))) = true then (none) else (if (bt227.1.size : Int) = a1 then (withylaw12_ChainBack.j0 k (a2.extract 0 ((mn (a2.size : Int) 1100) : Int).toNat)) else (none))) else (none))) else (withylaw12_ChainBack.j0 k (a2.extract 0 ((mn (a2.size : Int) 1100) : Int).toNat)))))) else (none)) else (none))) = some r := h
 clear h
 replace H := bM H
 obtain ⟨⟨t224, t225, t226⟩, A40, H⟩ := H
 replace H : (if 0 ≤ (mn (a2.size : Int) 1100) then (if (mn (a2.size : Int) 1100) ≤ (a2.size : Int) then ((chain_Encode.f k t224 t225 t226 a1).bind fun bt227 => ((chain_May.f t224 t225 t226 a1).bind fun t229 => (if ((bt227.2 == 0) != t229) = true then (none) else (if bt227.2 = 0 then ((chain_Decode.f k bt227.1).bind fun bt230 => (if bt230.2.2.2 = 0 then (if (!(bt230.1 == t224) || (!(bt230.2.1 == t225) || (!(bt230.2.2.1.toList == t226.toList)))) = true then (none) else (if (bt227.1.size : Int) = a1 then (withylaw12_ChainBack.j0 k (a2.extract 0 ((mn (a2.size : Int) 1100) : Int).toNat)) else (none))) else (none))) else (withylaw12_ChainBack.j0 k (a2.extract 0 ((mn (a2.size : Int) 1100) : Int).toNat)))))) else (none)) else (none)) = some r := H
 have A4 := Aside0.mk A40
 clear A40
 obtain ⟨ji5, hji5⟩ : ∃ j_ : Int, (mn (a2.size : Int) 1100) = j_ := ⟨_, rfl⟩
 replace H : (if 0 ≤ (ji5) then (if (ji5) ≤ (a2.size : Int) then ((chain_Encode.f k t224 t225 t226 a1).bind fun bt227 => ((chain_May.f t224 t225 t226 a1).bind fun t229 => (if ((bt227.2 == 0) != t229) = true then (none) else (if bt227.2 = 0 then ((chain_Decode.f k bt227.1).bind fun bt230 => (if bt230.2.2.2 = 0 then (if (!(bt230.1 == t224) || (!(bt230.2.1 == t225) || (!(bt230.2.2.1.toList == t226.toList)))) = true then (none) else (if (bt227.1.size : Int) = a1 then (withylaw12_ChainBack.j0 k (a2.extract 0 ((ji5) : Int).toNat)) else (none))) else (none))) else (withylaw12_ChainBack.j0 k (a2.extract 0 ((ji5) : Int).toNat)))))) else (none)) else (none)) = some r := by first | (rw [hji5] at H; exact H) | (simp only [hji5] at H ⊢; exact H)
 (try rw [hji5] at A4)
 (try (have hji5h : ji5 ≤ 1100 := by (rw [← hji5]; unfold mn; (repeat' split) <;> omega)))
 (try (have hji5g : ji5 ≤ 64 := by omega))
 (try (have hji5l : 0 ≤ ji5 := by (rw [← hji5]; unfold mn; (repeat' split) <;> omega)))
 (try (have hji5m : 0 ≤ ji5 := by omega))
 have hji5_ : (if 1100 < (a2.size : Int) then 1100 else (a2.size : Int)) = ji5 := hji5
 by_cases c6 : 0 ≤ (ji5)
 rotate_left
 ·rw [if_neg c6] at H
  exact absurd H (by simp)
 
 rw [if_pos c6] at H
 have c6b0 := eq_true c6
 have c6b1 : decide (0 ≤ (ji5)) = true := decide_eq_true c6
 clear c6
 by_cases c7 : (ji5) ≤ (a2.size : Int)
 rotate_left
 ·rw [if_neg c7] at H
  exact absurd H (by simp)
 rw [if_pos c7] at H
 have c7b0 := eq_true c7
 have c7b1 : decide ((ji5) ≤ (a2.size : Int)) = true := decide_eq_true c7
 clear c7
 obtain ⟨js8, hjs8⟩ : ∃ j_ : ByteArray, (a2.extract 0 ((ji5) : Int).toNat) = j_ := ⟨_, rfl⟩
 replace H : ((chain_Encode.f k t224 t225 t226 a1).bind fun bt227 => ((chain_May.f t224 t225 t226 a1).bind fun t229 => (if ((bt227.2 == 0) != t229) = true then (none) else (if bt227.2 = 0 then ((chain_Decode.f k bt227.1).bind fun bt230 => (if bt230.2.2.2 = 0 then (if (!(bt230.1 == t224) || (!(bt230.2.1 == t225) || (!(bt230.2.2.1.toList == t226.toList)))) = true then (none) else (if (bt227.1.size : Int) = a1 then (withylaw12_ChainBack.j0 k js8) else (none))) else (none))) else (withylaw12_ChainBack.j0 k js8))))) = some r := by first | (rw [hjs8] at H; exact H) | (simp only [hjs8] at H ⊢; exact H)
 (try rw [hjs8] at A4)
 replace H := bM H
 obtain ⟨⟨t227, t228⟩, A90, H⟩ := H
 replace H : ((chain_May.f t224 t225 t226 a1).bind fun t229 => (if ((t228 == 0) != t229) = true then (none) else (if t228 = 0 then ((chain_Decode.f k t227).bind fun bt230 => (if bt230.2.2.2 = 0 then (if (!(bt230.1 == t224) || (!(bt230.2.1 == t225) || (!(bt230.2.2.1.toList == t226.toList)))) = true then (none) else (if (t227.size : Int) = a1 then (withylaw12_ChainBack.j0 k js8) else (none))) else (none))) else (withylaw12_ChainBack.j0 k js8)))) = some r := H
 have A9 := Aside0.mk A90
 clear A90
 replace H := bM H
 obtain ⟨t229, A100, H⟩ := H
 replace H : (if ((t228 == 0) != t229) = true then (none) else (if t228 = 0 then ((chain_Decode.f k t227).bind fun bt230 => (if bt230.2.2.2 = 0 then (if (!(bt230.1 == t224) || (!(bt230.2.1 == t225) || (!(bt230.2.2.1.toList == t226.toList)))) = true then (none) else (if (t227.size : Int) = a1 then (withylaw12_ChainBack.j0 k js8) else (none))) else (none))) else (withylaw12_ChainBack.j0 k js8))) = some r := H
 have A10 := Aside0.mk A100
 clear A100
 by_cases c11 : ((t228 == 0) != t229) = true
 ·rw [if_pos c11] at H
  exact absurd H (by simp)
 rw [if_neg c11] at H
 have c11b0 : ((t228 == 0) != t229) = false := by simpa using c11
 (try (have c11b1 : decide ((t228 == 0) = t229) = true := by simpa using c11))
 (try (have c11b2 : ((t228 == 0) == t229) = true := by simpa using c11))
 clear c11
 have HC12 := Aside0.mk H
 clear H
 go_enter Tryd.func3, Tryd.ntmps3
 go_upto_if 35 with (first | ((with_reducible refine gate_dst (N := 3) rfl ?_); (try (refine gate_guard (by rfl) ?_; dsimp only)); refine box_event (by rfl) (N := 3) (by rfl) (cs := #[.int .i64 a0_0, .int .i64 a0_1, .string a0_2]) (t := 23) gS ?_; intro gb223 hg w13 hbox hb; have BK223 := as_ (hbox); have GW223 := gw hg bA; have GE223 := gw hg bA; replace HB := as_ (below_step bA hb); clear hb hbox hg; obtain ⟨hcz14_0, hcz14_1, hcz14_2⟩ := zc3 BK223; obtain ⟨hfz14_0, hfz14_1, hfz14_2⟩ := zf3 BK223) | ((with_reducible refine gate_callee (f := 8) rfl ?_); refine goesL_ (some 16) rfl rfl Tryd.func8 (by kernel_rfl) rfl #[.agg #[.int .i64 a0_0, .int .i64 a0_1, .string a0_2]] rfl aO ?_; (with_reducible refine (withylaw12_Cut.calls a0_0 a0_1 a0_2 t224 t225 t226 _ A4.out).mono ?_); rintro e w15 ⟨rfl, hb⟩; refine ⟨_, rfl, ?_⟩; replace BK223 := bb BK223 hb; replace HB := as_ (below_step bA hb); (try clear hb); (try clear hb2); (try clear hk); (try clear hi); obtain ⟨hcz16_0, hcz16_1, hcz16_2⟩ := zc3 BK223; obtain ⟨hfz16_0, hfz16_1, hfz16_2⟩ := zf3 BK223) | ((with_reducible refine gate_callee (f := 9) rfl ?_); refine goesL_ (some 25) rfl rfl Tryd.func9 (by kernel_rfl) rfl #[.agg #[.int .i64 t224, .int .i64 t225, .string t226], .int .i64 a1] rfl aO ?_; (with_reducible refine (chain_Encode.calls k t224 t225 t226 a1 t227 t228 _ A9.out).mono ?_); rintro e w17 ⟨rfl, hb⟩; refine ⟨_, rfl, ?_⟩; replace BK223 := as_ (blk_below (g := gb223) (o := .cells #[.int .i64 t224, .int .i64 t225, .string t226] 23 (0, 0)) (by refine bx ?_; refine blk_put (cs := #[.int .i64 t224, .int .i64 t225, .string a0_2]) ?_ 2 _ rfl; refine bx ?_; refine blk_put (cs := #[.int .i64 t224, .int .i64 a0_1, .string a0_2]) ?_ 1 _ rfl; refine bx ?_; refine blk_put (cs := #[.int .i64 a0_0, .int .i64 a0_1, .string a0_2]) ?_ 0 _ rfl; refine bx ?_; exact BK223.out) hb); replace HB := as_ (below_step bA hb); (try clear hb); (try clear hb2); (try clear hk); (try clear hi); obtain ⟨hcz18_0, hcz18_1, hcz18_2⟩ := zc3 BK223; obtain ⟨hfz18_0, hfz18_1, hfz18_2⟩ := zf3 BK223) | ((with_reducible refine gate_callee (f := 10) rfl ?_); refine goesL_ (some 32) rfl rfl Tryd.func10 (by kernel_rfl) rfl #[.agg #[.int .i64 t224, .int .i64 t225, .string t226], .int .i64 a1] rfl aO ?_; (with_reducible refine (chain_May.calls t224 t225 t226 a1 t229 _ A10.out).mono ?_); rintro e w19 ⟨rfl, hb⟩; refine ⟨_, rfl, ?_⟩; replace BK223 := bb BK223 hb; replace HB := as_ (below_step bA hb); (try clear hb); (try clear hb2); (try clear hk); (try clear hi)))
 (try simp only [Act.put, List.setIfInBounds_toArray, List.set_cons_zero, List.set_cons_succ])
 go_cut [] (fun wc => ∃ (kq : Nat), Aside0 (withylaw12_ChainBack.j0 kq js8 = some r) ∧ Aside0 (kq ≤ k) ∧ Aside0 (wc.heap[gb223]? = some (.cells #[.int .i64 t224, .int .i64 t225, .string t226] 23 (0, 0))) ∧ Aside0 (Below w.heap.size w wc))
 case first =>
  have H := HC12.out
  clear HC12
  by_cases c20 : t228 = 0
  rotate_left
  ·rw [if_neg c20] at H
   have c20b0 : (t228 == 0) = false := beq_eq_false_iff_ne.mpr c20
   (try (have c11t : t229 = true := by have h_ := c11b0; rw [c20b0] at h_; simpa using h_))
   (try (have c11t : t229 = false := by have h_ := c11b0; rw [c20b0] at h_; simpa using h_))
   have c20b1 : (t228 != 0) = true := bne_iff_ne.mpr c20
   (first | rw [c20b0] | (simp only [i64_w, i32_w]; rw [c20b0]) | rw [c20b1] | skip)
   have H' := Aside0.mk H
   clear H
   go_wp2
   go_meet
   case rel => exact ⟨_, H', ⟨by first | omega | exact Nat.le_refl _⟩, ⟨by refine bx ?_; exact BK223.out⟩, ⟨by repeat (first | (with_reducible first | exact HB.out | apply below_alloc | apply pw_below_drewN | apply below_drew1 | refine below_set ?_ GE223.out) | exact HB.out)⟩⟩
  rw [if_pos c20] at H
  have c20b0 : (t228 == 0) = true := beq_iff_eq.mpr c20
  (try (have c11t : t229 = true := by have h_ := c11b0; rw [c20b0] at h_; simpa using h_))
  (try (have c11t : t229 = false := by have h_ := c11b0; rw [c20b0] at h_; simpa using h_))
  have c20b1 : (t228 != 0) = false := bne_eq_false_iff_eq.mpr c20
  clear c20
  (first | rw [c20b0] | (simp only [i64_w, i32_w]; rw [c20b0]) | rw [c20b1] | skip)
  replace H := bM H
  obtain ⟨⟨t230, t231, t232, t233⟩, A210, H⟩ := H
  replace H : (if t233 = 0 then (if (!(t230 == t224) || (!(t231 == t225) || (!(t232.toList == t226.toList)))) = true then (none) else (if (t227.size : Int) = a1 then (withylaw12_ChainBack.j0 k js8) else (none))) else (none)) = some r := H
  have A21 := Aside0.mk A210
  clear A210
  by_cases c22 : t233 = 0
  rotate_left
  ·rw [if_neg c22] at H
   exact absurd H (by simp)
  rw [if_pos c22] at H
  have c22b0 : (t233 == 0) = true := beq_iff_eq.mpr c22
  have c22b1 : (t233 != 0) = false := bne_eq_false_iff_eq.mpr c22
  clear c22
  by_cases c23 : (!(t230 == t224) || (!(t231 == t225) || (!(t232.toList == t226.toList)))) = true
  ·rw [if_pos c23] at H
   exact absurd H (by simp)
  ·rw [if_neg c23] at H
   have c23b0 : (!(t230 == t224) || (!(t231 == t225) || (!(t232.toList == t226.toList)))) = false := by simpa using c23
   (try (have c23b8 : (t230 = t224 ∧ t231 = t225 ∧ t232.toList = t226.toList) = True := eq_true (by simpa using c23)))
   clear c23
   by_cases c24 : (t227.size : Int) = a1
   rotate_left
   ·rw [if_neg c24] at H
    exact absurd H (by simp)
   rw [if_pos c24] at H
   have c24b0 : ((t227.size : Int) == a1) = true := beq_iff_eq.mpr c24
   have c24b1 : ((t227.size : Int) != a1) = false := bne_eq_false_iff_eq.mpr c24
   clear c24
   have H' := Aside0.mk H
   clear H
   go_wp2_with (first | ((with_reducible refine gate_callee (f := 11) rfl ?_); refine goesL_ (some 38) rfl rfl Tryd.func11 (by kernel_rfl) rfl #[.string t227] rfl aO ?_; (with_reducible refine (chain_Decode.calls k t227 t230 t231 t232 t233 _ A21.out).mono ?_); rintro e w25 ⟨rfl, hb⟩; refine ⟨_, rfl, ?_⟩; replace BK223 := bb BK223 hb; replace HB := as_ (below_step bA hb); (try clear hb); (try clear hb2); (try clear hk); (try clear hi)) | ((with_reducible refine gate_dst (N := 9) rfl ?_); (try (refine gate_guard (by rfl) ?_; dsimp only)); refine box_event ?hg (N := 9) ?hd (cs := #[.int .i64 0, .int .i64 0, .string (⟨#[]⟩ : ByteArray)]) (t := 23) ?hr ?_; (case hd => rfl); (case hg => rfl); (case hr => first | (go_simp; done) | (go_simp; rfl)); intro gb234 hg w26 hbox hb; have BK234 := as_ (hbox); have GW234 := gw hg bA; have GE234 := gw hg bA; have NB223_234 := nl BK223 hg; have NB234_223 := ng BK223 hg; replace BK223 := bb BK223 hb; replace HB := as_ (below_step bA hb); clear hb hbox hg; have hnb27 := NB234_223.out; have hnc27 := NB223_234.out; obtain ⟨hcz28_0, hcz28_1, hcz28_2⟩ := zc3 BK234; obtain ⟨hfz28_0, hfz28_1, hfz28_2⟩ := zf3 BK234; obtain ⟨hcz29_0, hcz29_1, hcz29_2⟩ := zc3 BK223; obtain ⟨hfz29_0, hfz29_1, hfz29_2⟩ := zf3 BK223))
   go_meet
   case rel => exact ⟨_, H', ⟨by first | omega | exact Nat.le_refl _⟩, ⟨by refine bx ?_; refine blk_far ?_ NB223_234.out _; refine bx ?_; refine blk_far ?_ NB223_234.out _; refine bx ?_; refine blk_far ?_ NB223_234.out _; refine bx ?_; exact BK223.out⟩, ⟨by repeat (first | (with_reducible first | exact HB.out | apply below_alloc | apply pw_below_drewN | apply below_drew1 | refine below_set ?_ GE223.out | refine below_set ?_ GE234.out) | exact HB.out)⟩⟩
 case rest =>
  clear HC12
  try clear c1
  try clear c2
  try clear p2
  try clear c3
  try clear c6
  try clear c6b0
  try clear c6b1
  try clear c7
  try clear c7b0
  try clear c7b1
  try clear c8
  try clear c9
  try clear c10
  try clear c11
  try clear c11b0
  try clear c11b1
  try clear c11b2
  try clear c20
  try clear c20b0
  try clear c20b1
  try clear c22
  try clear c22b0
  try clear c22b1
  try clear c23
  try clear c23b0
  try clear c24
  try clear c24b0
  try clear c24b1
  try clear c27
  try clear hcz14_0
  try clear hcz14_1
  try clear hcz14_2
  try clear hcz16_0
  try clear hcz16_1
  try clear hcz16_2
  try clear hcz18_0
  try clear hcz18_1
  try clear hcz18_2
  try clear hcz28_0
  try clear hcz28_1
  try clear hcz28_2
  try clear hcz29_0
  try clear hcz29_1
  try clear hcz29_2
  try clear hfz14_0
  try clear hfz14_1
  try clear hfz14_2
  try clear hfz16_0
  try clear hfz16_1
  try clear hfz16_2
  try clear hfz18_0
  try clear hfz18_1
  try clear hfz18_2
  try clear hfz28_0
  try clear hfz28_1
  try clear hfz28_2
  try clear hfz29_0
  try clear hfz29_1
  try clear hfz29_2
  obtain ⟨kq, HA, HJ11, BK223, HB⟩ := hcut
  cases kq with
  | zero => exact absurd HA.out (by simp [withylaw12_ChainBack.j0])
  | succ kj11 =>
   have H := HA.out
   clear HA
   simp only [withylaw12_ChainBack.j0] at H
   replace H := bM H
   obtain ⟨⟨t235, t236, t237, t238⟩, A300, H⟩ := H
   replace H : (if t238 = 0 then ((chain_Encode.f kj11 t235 t236 t237 (js8.size : Int)).bind fun bt240 => (if bt240.2 = 0 then (if bt240.1.toList = js8.toList then ((withylaw12_fixed.f kj11).bind fun t242 => (some t242)) else (none)) else (none))) else (if t238 = 3 then (if (t235 == 0 && (t236 == 0 && (t237.toList == ([] : List UInt8)))) = true then ((withylaw12_fixed.f kj11).bind fun t243 => (some t243)) else (none)) else (none))) = some r := H
   have A30 := Aside0.mk A300
   clear A300
   by_cases c31 : t238 = 0
   rotate_left
   ·rw [if_neg c31] at H
    have c31b0 : (t238 == 0) = false := beq_eq_false_iff_ne.mpr c31
    have c31b1 : (t238 != 0) = true := bne_iff_ne.mpr c31
    by_cases c42 : t238 = 3
    rotate_left
    ·rw [if_neg c42] at H
     exact absurd H (by simp)
    rw [if_pos c42] at H
    have c42b0 : (t238 == 3) = true := beq_iff_eq.mpr c42
    have c42b1 : (t238 != 3) = false := bne_eq_false_iff_eq.mpr c42
    clear c42
    by_cases c43 : (t235 == 0 && (t236 == 0 && (t237.toList == ([] : List UInt8)))) = true
    rotate_left
    ·rw [if_neg c43] at H
     exact absurd H (by simp)
    rw [if_pos c43] at H
    have c43b0 : (t235 == 0 && (t236 == 0 && (t237.toList == ([] : List UInt8)))) = true := c43
    (try (have c43b8 : (t235 = 0 ∧ t236 = 0 ∧ t237.toList = []) = True := eq_true (by simpa using c43)))
    (try (have c43b1 : t235 = 0 && (t236 == 0 && (t237.toList == ([] : List UInt8))) := by simpa using c43))
    (try (have c43b2 : decide (t235 = 0 && (t236 == 0 && (t237.toList == ([] : List UInt8)))) = true := by simpa using c43))
    (try (have c43b3 : (t235 == 0 && (t236 == 0 && (t237.toList == ([] : List UInt8)))) = true := by simpa using c43))
    clear c43
    replace H := bM H
    obtain ⟨t243, A440, H⟩ := H
    replace H : (some t243) = some r := H
    have A44 := Aside0.mk A440
    clear A440
    obtain rfl := Option.some.inj H
    go_wp2_with (first | ((with_reducible refine gate_callee (f := 11) rfl ?_); refine goesL_ (some 56) rfl rfl Tryd.func11 (by kernel_rfl) rfl #[.string js8] rfl aO ?_; (with_reducible refine (chain_Decode.calls kj11 js8 t235 t236 t237 t238 _ A30.out).mono ?_); rintro e w45 ⟨rfl, hb⟩; refine ⟨_, rfl, ?_⟩; replace BK223 := bb BK223 hb; replace HB := as_ (below_step bA hb); (try clear hb); (try clear hb2); (try clear hk); (try clear hi)) | ((with_reducible refine gate_dst (N := 11) rfl ?_); (try (refine gate_guard (by rfl) ?_; dsimp only)); refine box_event ?hg (N := 11) ?hd (cs := #[.int .i64 0, .int .i64 0, .string (⟨#[]⟩ : ByteArray)]) (t := 23) ?hr ?_; (case hd => rfl); (case hg => rfl); (case hr => first | (go_simp; done) | (go_simp; rfl)); intro gb239 hg w46 hbox hb; have BK239 := as_ (hbox); have GW239 := gw hg bA; have GE239 := gw hg bA; have NB223_239 := nl BK223 hg; have NB239_223 := ng BK223 hg; replace BK223 := bb BK223 hb; replace HB := as_ (below_step bA hb); clear hb hbox hg; have hnb47 := NB239_223.out; have hnc47 := NB223_239.out; obtain ⟨hcz48_0, hcz48_1, hcz48_2⟩ := zc3 BK239; obtain ⟨hfz48_0, hfz48_1, hfz48_2⟩ := zf3 BK239) | (go_at_call 12; (with_reducible refine (withylaw12_fixed.calls kj11  t243 _ A44.out).mono ?_); rintro e w49 ⟨rfl, hb⟩; replace BK223 := as_ (blk_below (g := gb223) (o := .cells #[.int .i64 t224, .int .i64 t225, .string t226] 23 (0, 0)) (by refine bx ?_; refine blk_far ?_ NB223_239.out _; refine bx ?_; refine blk_far ?_ NB223_239.out _; refine bx ?_; refine blk_far ?_ NB223_239.out _; refine bx ?_; exact BK223.out) hb); replace BK239 := as_ (blk_below (g := gb239) (o := .cells #[.int .i64 t235, .int .i64 t236, .string t237] 23 (0, 0)) (by refine bx ?_; refine blk_put (cs := #[.int .i64 t235, .int .i64 t236, .string (⟨#[]⟩ : ByteArray)]) ?_ 2 _ rfl; refine bx ?_; refine blk_put (cs := #[.int .i64 t235, .int .i64 0, .string (⟨#[]⟩ : ByteArray)]) ?_ 1 _ rfl; refine bx ?_; refine blk_put (cs := #[.int .i64 0, .int .i64 0, .string (⟨#[]⟩ : ByteArray)]) ?_ 0 _ rfl; refine bx ?_; exact BK239.out) hb); replace HB := as_ (below_step bA hb); (try clear hb); (try clear hb2); (try clear hk); (try clear hi)))
    go_ret
    exact ⟨by first | rfl | (simp [errW_none, errW_some] <;> rfl) | (simp only [← hji5, ← hjs8]; first | rfl | (simp [errW_none, errW_some] <;> rfl)) | (simp [*, errW_none, errW_some] <;> rfl), by repeat (first | (with_reducible first | exact HB.out | apply below_alloc | apply pw_below_drewN | apply below_drew1 | refine below_set ?_ GE223.out | refine below_set ?_ GE239.out) | exact HB.out)⟩
   rw [if_pos c31] at H
   have c31b0 : (t238 == 0) = true := beq_iff_eq.mpr c31
   have c31b1 : (t238 != 0) = false := bne_eq_false_iff_eq.mpr c31
   clear c31
   replace H := bM H
   obtain ⟨⟨t240, t241⟩, A320, H⟩ := H
   replace H : (if t241 = 0 then (if t240.toList = js8.toList then ((withylaw12_fixed.f kj11).bind fun t242 => (some t242)) else (none)) else (none)) = some r := H
   have A32 := Aside0.mk A320
   clear A320
   by_cases c33 : t241 = 0
   rotate_left
   ·rw [if_neg c33] at H
    exact absurd H (by simp)
   rw [if_pos c33] at H
   have c33b0 : (t241 == 0) = true := beq_iff_eq.mpr c33
   have c33b1 : (t241 != 0) = false := bne_eq_false_iff_eq.mpr c33
   clear c33
   by_cases c34 : t240.toList = js8.toList
   rotate_left
   ·rw [if_neg c34] at H
    exact absurd H (by simp)
   rw [if_pos c34] at H
   have c34b0 : (t240.toList == js8.toList) = true := beq_iff_eq.mpr c34
   have c34b1 : (t240.toList != js8.toList) = false := bne_eq_false_iff_eq.mpr c34
   clear c34
   replace H := bM H
   obtain ⟨t242, A350, H⟩ := H
   replace H : (some t242) = some r := H
   have A35 := Aside0.mk A350
   clear A350
   obtain rfl := Option.some.inj H
   go_wp2_with (first | ((with_reducible refine gate_callee (f := 11) rfl ?_); refine goesL_ (some 56) rfl rfl Tryd.func11 (by kernel_rfl) rfl #[.string js8] rfl aO ?_; (with_reducible refine (chain_Decode.calls kj11 js8 t235 t236 t237 t238 _ A30.out).mono ?_); rintro e w36 ⟨rfl, hb⟩; refine ⟨_, rfl, ?_⟩; replace BK223 := bb BK223 hb; replace HB := as_ (below_step bA hb); (try clear hb); (try clear hb2); (try clear hk); (try clear hi)) | ((with_reducible refine gate_dst (N := 11) rfl ?_); (try (refine gate_guard (by rfl) ?_; dsimp only)); refine box_event ?hg (N := 11) ?hd (cs := #[.int .i64 0, .int .i64 0, .string (⟨#[]⟩ : ByteArray)]) (t := 23) ?hr ?_; (case hd => rfl); (case hg => rfl); (case hr => first | (go_simp; done) | (go_simp; rfl)); intro gb239 hg w37 hbox hb; have BK239 := as_ (hbox); have GW239 := gw hg bA; have GE239 := gw hg bA; have NB223_239 := nl BK223 hg; have NB239_223 := ng BK223 hg; replace BK223 := bb BK223 hb; replace HB := as_ (below_step bA hb); clear hb hbox hg; have hnb38 := NB239_223.out; have hnc38 := NB223_239.out; obtain ⟨hcz39_0, hcz39_1, hcz39_2⟩ := zc3 BK239; obtain ⟨hfz39_0, hfz39_1, hfz39_2⟩ := zf3 BK239) | ((with_reducible refine gate_callee (f := 9) rfl ?_); refine goesL_ (some 75) rfl rfl Tryd.func9 (by kernel_rfl) rfl #[.agg #[.int .i64 t235, .int .i64 t236, .string t237], .int .i64 (js8.size : Int)] rfl aO ?_; (with_reducible refine (chain_Encode.calls kj11 t235 t236 t237 (js8.size : Int) t240 t241 _ A32.out).mono ?_); rintro e w40 ⟨rfl, hb⟩; refine ⟨_, rfl, ?_⟩; replace BK223 := as_ (blk_below (g := gb223) (o := .cells #[.int .i64 t224, .int .i64 t225, .string t226] 23 (0, 0)) (by refine bx ?_; refine blk_far ?_ NB223_239.out _; refine bx ?_; refine blk_far ?_ NB223_239.out _; refine bx ?_; refine blk_far ?_ NB223_239.out _; refine bx ?_; exact BK223.out) hb); replace BK239 := as_ (blk_below (g := gb239) (o := .cells #[.int .i64 t235, .int .i64 t236, .string t237] 23 (0, 0)) (by refine bx ?_; refine blk_put (cs := #[.int .i64 t235, .int .i64 t236, .string (⟨#[]⟩ : ByteArray)]) ?_ 2 _ rfl; refine bx ?_; refine blk_put (cs := #[.int .i64 t235, .int .i64 0, .string (⟨#[]⟩ : ByteArray)]) ?_ 1 _ rfl; refine bx ?_; refine blk_put (cs := #[.int .i64 0, .int .i64 0, .string (⟨#[]⟩ : ByteArray)]) ?_ 0 _ rfl; refine bx ?_; exact BK239.out) hb); replace HB := as_ (below_step bA hb); (try clear hb); (try clear hb2); (try clear hk); (try clear hi)) | (go_at_call 12; (with_reducible refine (withylaw12_fixed.calls kj11  t242 _ A35.out).mono ?_); rintro e w41 ⟨rfl, hb⟩; replace BK223 := bb BK223 hb; replace BK239 := bb BK239 hb; replace HB := as_ (below_step bA hb); (try clear hb); (try clear hb2); (try clear hk); (try clear hi)))
   go_ret
   exact ⟨by first | rfl | (simp [errW_none, errW_some] <;> rfl) | (simp only [← hji5, ← hjs8]; first | rfl | (simp [errW_none, errW_some] <;> rfl)) | (simp [*, errW_none, errW_some] <;> rfl), by repeat (first | (with_reducible first | exact HB.out | apply below_alloc | apply pw_below_drewN | apply below_drew1 | refine below_set ?_ GE223.out | refine below_set ?_ GE239.out) | exact HB.out)⟩
/-! ### withyref06_Size: function 13 -/
def withyref06_Size.f (a0 : Int) : Option (Bool) := if a0 = 128 then (some true) else (if a0 = 256 then (some true) else (if a0 = 512 then (some true) else (some (a0 == 1024))))
set_option maxHeartbeats 8000000 in
set_option maxRecDepth 100000 in
theorem withyref06_Size.calls (a0 : Int) (r : Bool) (w : World) (h : withyref06_Size.f a0 = some r) :
  Calls Tryd.prog 13 #[.int .i64 a0] w fun e w' => e = .returned (.bool r) ∧ Drawn0 w w' := by
 have H : (if a0 = 128 then (some true) else (if a0 = 256 then (some true) else (if a0 = 512 then (some true) else (some (a0 == 1024))))) = some r := h
 clear h
 by_cases c2 : a0 = 128
 ·rw [if_pos c2] at H
  have c2b0 : (a0 == 128) = true := beq_iff_eq.mpr c2
  have c2b1 : (a0 != 128) = false := bne_eq_false_iff_eq.mpr c2
  clear c2
  obtain rfl := Option.some.inj H
  go_enter Tryd.func13, Tryd.ntmps13
  go_wp2
  go_ret
  exact ⟨by first | rfl | (simp; done) | (simp [*]; done), by repeat (first | exact Drawn0.refl _ | apply Drawn0.step)⟩
 rw [if_neg c2] at H
 have c2b0 : (a0 == 128) = false := beq_eq_false_iff_ne.mpr c2
 have c2b1 : (a0 != 128) = true := bne_iff_ne.mpr c2
 by_cases c3 : a0 = 256
 ·rw [if_pos c3] at H
  have c3b0 : (a0 == 256) = true := beq_iff_eq.mpr c3
  have c3b1 : (a0 != 256) = false := bne_eq_false_iff_eq.mpr c3
  clear c3
  obtain rfl := Option.some.inj H
  go_enter Tryd.func13, Tryd.ntmps13
  go_wp2
  go_ret
  exact ⟨by first | rfl | (simp; done) | (simp [*]; done), by repeat (first | exact Drawn0.refl _ | apply Drawn0.step)⟩
 rw [if_neg c3] at H
 have c3b0 : (a0 == 256) = false := beq_eq_false_iff_ne.mpr c3
 have c3b1 : (a0 != 256) = true := bne_iff_ne.mpr c3
 by_cases c4 : a0 = 512
 rotate_left
 ·rw [if_neg c4] at H
  have c4b0 : (a0 == 512) = false := beq_eq_false_iff_ne.mpr c4
  have c4b1 : (a0 != 512) = true := bne_iff_ne.mpr c4
  obtain rfl := Option.some.inj H
  go_enter Tryd.func13, Tryd.ntmps13
  go_wp2
  go_ret
  exact ⟨by first | rfl | (simp; done) | (simp [*]; done), by repeat (first | exact Drawn0.refl _ | apply Drawn0.step)⟩
 
 rw [if_pos c4] at H
 have c4b0 : (a0 == 512) = true := beq_iff_eq.mpr c4
 have c4b1 : (a0 != 512) = false := bne_eq_false_iff_eq.mpr c4
 clear c4
 obtain rfl := Option.some.inj H
 go_enter Tryd.func13, Tryd.ntmps13
 go_wp2
 go_ret
 exact ⟨by first | rfl | (simp; done) | (simp [*]; done), by repeat (first | exact Drawn0.refl _ | apply Drawn0.step)⟩
/-! ### withylaw12_ChainParts: function 4 -/
def withylaw12_ChainParts.l0 : Nat → ByteArray → Int → List ByteArray → ByteArray → Int → Option (Bool)
 | 0, _, _, _, _, _ => none
 | k + 1, x0, x1, x5, x6, x7 => if x7 < (x5.length : Int) then (if 0 ≤ x7 then (if ((rdOf ByteArray.empty x5 x7).size : Int) < 1 then (none) else (if ((rdOf ByteArray.empty x5 x7).size : Int) > (wrap64 (x1 - 16)) then (none) else (if (wrap64 (x7 + 1)) < (x5.length : Int) then (if ((rdOf ByteArray.empty x5 x7).size : Int) = (wrap64 (x1 - 16)) then ((chain_May.f 1 (wrap64 (2 * (mn 1 (wrap64 ((wrap64 ((x5.length : Int) - 1)) - x7))))) (rdOf ByteArray.empty x5 x7) x1).bind fun t254 => (if t254 = true then (if x6.size + (rdOf ByteArray.empty x5 x7).size ≤ 9223372036854775807 then (withylaw12_ChainParts.l0 k x0 x1 x5 (x6 ++ (rdOf ByteArray.empty x5 x7)) (wrap64 (x7 + 1))) else (none)) else (none))) else (none)) else ((chain_May.f 1 (wrap64 (2 * (mn 1 (wrap64 ((wrap64 ((x5.length : Int) - 1)) - x7))))) (rdOf ByteArray.empty x5 x7) x1).bind fun t257 => (if t257 = true then (if x6.size + (rdOf ByteArray.empty x5 x7).size ≤ 9223372036854775807 then (withylaw12_ChainParts.l0 k x0 x1 x5 (x6 ++ (rdOf ByteArray.empty x5 x7)) (wrap64 (x7 + 1))) else (none)) else (none)))))) else (none)) else (if x6.toList = x0.toList then ((chain_Pages.f (x0.size : Int) x1).bind fun t259 => (if t259 = (x5.length : Int) then ((withylaw12_fixed.f k).bind fun t260 => (some t260)) else (none))) else (none))
def withylaw12_ChainParts.f (k : Nat) (a0 : ByteArray) (a1 : Int) : Option (Bool) := if 0 ≤ (mn (a0.size : Int) 3000) then (if (mn (a0.size : Int) 3000) ≤ (a0.size : Int) then ((withyref06_Size.f a1).bind fun t244 => (if t244 = true then ((chain_Parts.f k (a0.extract 0 ((mn (a0.size : Int) 3000) : Int).toNat) a1).bind fun t247 => (withylaw12_ChainParts.l0 k (a0.extract 0 ((mn (a0.size : Int) 3000) : Int).toNat) a1 t247 (⟨#[]⟩ : ByteArray) 0)) else ((chain_May.f 1 0 (⟨#[120]⟩ : ByteArray) a1).bind fun t245 => (if t245 = true then (none) else ((withylaw12_fixed.f k).bind fun t246 => (some t246)))))) else (none)) else (none)
theorem withylaw12_ChainParts.mono_l : ∀ k, (∀ y0 y1 y2 y3 y4, LeO (withylaw12_ChainParts.l0 k y0 y1 y2 y3 y4) (withylaw12_ChainParts.l0 (k + 1) y0 y1 y2 y3 y4))
 | 0 => fun _ _ _ _ _ r h => by simp [withylaw12_ChainParts.l0] at h
 | k + 1 => by
  have ih0 := withylaw12_ChainParts.mono_l k
  ·intro y0 y1 y2 y3 y4
   unfold withylaw12_ChainParts.l0
   repeat' first
   | (with_reducible exact ih0 _ _ _ _ _)
   | (with_reducible exact chain_Parts.mono _ _ _)
   | (with_reducible exact withylaw12_fixed.mono _)
   | (with_reducible exact LeO.refl _)
   | (with_reducible exact LeO.none _)
   | (with_reducible refine LeO.ite ?_ ?_)
   | (with_reducible refine LeO.bind ?_ (fun _ => ?_))
   | exact ih0 _ _ _ _ _
   | exact chain_Parts.mono _ _ _
   | exact withylaw12_fixed.mono _
   | exact LeO.none _
   | refine LeO.ite ?_ ?_
   | refine LeO.bind ?_ (fun _ => ?_)
theorem withylaw12_ChainParts.mono : ∀ a0 a1 k, LeO (withylaw12_ChainParts.f k a0 a1) (withylaw12_ChainParts.f (k + 1) a0 a1) := by
 intro a0 a1 k
 have ih0 := withylaw12_ChainParts.mono_l k
 unfold withylaw12_ChainParts.f
 repeat' first
   | (with_reducible exact ih0 _ _ _ _ _)
   | (with_reducible exact chain_Parts.mono _ _ _)
   | (with_reducible exact withylaw12_fixed.mono _)
   | (with_reducible exact LeO.refl _)
   | (with_reducible exact LeO.none _)
   | (with_reducible refine LeO.ite ?_ ?_)
   | (with_reducible refine LeO.bind ?_ (fun _ => ?_))
   | exact ih0 _ _ _ _ _
   | exact chain_Parts.mono _ _ _
   | exact withylaw12_fixed.mono _
   | exact LeO.none _
   | refine LeO.ite ?_ ?_
   | refine LeO.bind ?_ (fun _ => ?_)
set_option maxHeartbeats 8000000 in
set_option maxRecDepth 100000 in
theorem withylaw12_ChainParts.calls (k : Nat) (a0 : ByteArray) (a1 : Int) (r : Bool) (w : World) (h : withylaw12_ChainParts.f k a0 a1 = some r) :
  Calls Tryd.prog 4 #[.string a0, .int .i64 a1] w fun e w' => e = .returned (.bool r) ∧ Below w.heap.size w w' := by
 have hu23 := Tryd.underlying23
 have HB := as_ (Below.refl w.heap.size w)
 have H : (if 0 ≤ (mn (a0.size : Int) 3000) then (if (mn (a0.size : Int) 3000) ≤ (a0.size : Int) then ((withyref06_Size.f a1).bind fun t244 => (if t244 = true then ((chain_Parts.f k (a0.extract 0 ((mn (a0.size : Int) 3000) : Int).toNat) a1).bind fun t247 => (withylaw12_ChainParts.l0 k (a0.extract 0 ((mn (a0.size : Int) 3000) : Int).toNat) a1 t247 (⟨#[]⟩ : ByteArray) 0)) else ((chain_May.f 1 0 (⟨#[120]⟩ : ByteArray) a1).bind fun t245 => (if t245 = true then (none) else ((withylaw12_fixed.f k).bind fun t246 => (some t246)))))) else (none)) else (none)) = some r := h
 clear h
 obtain ⟨ji3, hji3⟩ : ∃ j_ : Int, (mn (a0.size : Int) 3000) = j_ := ⟨_, rfl⟩
 replace H : (if 0 ≤ (ji3) then (if (ji3) ≤ (a0.size : Int) then ((withyref06_Size.f a1).bind fun t244 => (if t244 = true then ((chain_Parts.f k (a0.extract 0 ((ji3) : Int).toNat) a1).bind fun t247 => (withylaw12_ChainParts.l0 k (a0.extract 0 ((ji3) : Int).toNat) a1 t247 (⟨#[]⟩ : ByteArray) 0)) else ((chain_May.f 1 0 (⟨#[120]⟩ : ByteArray) a1).bind fun t245 => (if t245 = true then (none) else ((withylaw12_fixed.f k).bind fun t246 => (some t246)))))) else (none)) else (none)) = some r := by first | (rw [hji3] at H; exact H) | (simp only [hji3] at H ⊢; exact H)
 (try (have hji3h : ji3 ≤ 3000 := by (rw [← hji3]; unfold mn; (repeat' split) <;> omega)))
 (try (have hji3g : ji3 ≤ 64 := by omega))
 (try (have hji3l : 0 ≤ ji3 := by (rw [← hji3]; unfold mn; (repeat' split) <;> omega)))
 (try (have hji3m : 0 ≤ ji3 := by omega))
 have hji3_ : (if 3000 < (a0.size : Int) then 3000 else (a0.size : Int)) = ji3 := hji3
 by_cases c4 : 0 ≤ (ji3)
 rotate_left
 ·rw [if_neg c4] at H
  exact absurd H (by simp)
 
 rw [if_pos c4] at H
 have c4b0 := eq_true c4
 have c4b1 : decide (0 ≤ (ji3)) = true := decide_eq_true c4
 clear c4
 by_cases c5 : (ji3) ≤ (a0.size : Int)
 rotate_left
 ·rw [if_neg c5] at H
  exact absurd H (by simp)
 rw [if_pos c5] at H
 have c5b0 := eq_true c5
 have c5b1 : decide ((ji3) ≤ (a0.size : Int)) = true := decide_eq_true c5
 clear c5
 obtain ⟨js6, hjs6⟩ : ∃ j_ : ByteArray, (a0.extract 0 ((ji3) : Int).toNat) = j_ := ⟨_, rfl⟩
 replace H : ((withyref06_Size.f a1).bind fun t244 => (if t244 = true then ((chain_Parts.f k (js6) a1).bind fun t247 => (withylaw12_ChainParts.l0 k js6 a1 t247 (⟨#[]⟩ : ByteArray) 0)) else ((chain_May.f 1 0 (⟨#[120]⟩ : ByteArray) a1).bind fun t245 => (if t245 = true then (none) else ((withylaw12_fixed.f k).bind fun t246 => (some t246)))))) = some r := by first | (rw [hjs6] at H; exact H) | (simp only [hjs6] at H ⊢; exact H)
 replace H := bM H
 obtain ⟨t244, A70, H⟩ := H
 replace H : (if t244 = true then ((chain_Parts.f k (js6) a1).bind fun t247 => (withylaw12_ChainParts.l0 k js6 a1 t247 (⟨#[]⟩ : ByteArray) 0)) else ((chain_May.f 1 0 (⟨#[120]⟩ : ByteArray) a1).bind fun t245 => (if t245 = true then (none) else ((withylaw12_fixed.f k).bind fun t246 => (some t246))))) = some r := H
 have A7 := Aside0.mk A70
 clear A70
 by_cases c8 : t244 = true
 rotate_left
 ·replace c8 := Bool.eq_false_iff.mpr c8
  subst c8
  have H1 : ((chain_May.f 1 0 (⟨#[120]⟩ : ByteArray) a1).bind fun t245 => (if t245 = true then (none) else ((withylaw12_fixed.f k).bind fun t246 => (some t246)))) = some r := by rw [if_neg (show ¬ (false = true) by decide)] at H; exact H
  clear H
  have H := H1
  clear H1
  replace H := bM H
  obtain ⟨t245, A380, H⟩ := H
  replace H : (if t245 = true then (none) else ((withylaw12_fixed.f k).bind fun t246 => (some t246))) = some r := H
  have A38 := Aside0.mk A380
  clear A380
  by_cases c39 : t245 = true
  ·subst c39
   have H1 : (none) = some r := by rw [if_pos rfl] at H; exact H
   clear H
   have H := H1
   clear H1
   exact absurd H (by simp)
  replace c39 := Bool.eq_false_iff.mpr c39
  subst c39
  have H1 : ((withylaw12_fixed.f k).bind fun t246 => (some t246)) = some r := by rw [if_neg (show ¬ (false = true) by decide)] at H; exact H
  clear H
  have H := H1
  clear H1
  replace H := bM H
  obtain ⟨t246, A400, H⟩ := H
  replace H : (some t246) = some r := H
  have A40 := Aside0.mk A400
  clear A400
  obtain rfl := Option.some.inj H
  go_enter Tryd.func4, Tryd.ntmps4
  (try simp only [List.append_eq, List.cons_append, List.nil_append])
  go_wp2_with (first | ((with_reducible refine gate_callee (f := 13) rfl ?_); refine goesL_ (some 14) rfl rfl Tryd.func13 (by kernel_rfl) rfl #[.int .i64 a1] rfl aO ?_; (with_reducible refine (withyref06_Size.calls a1 false _ A7.out).mono ?_); rintro e w' ⟨rfl, ⟨nd, rfl⟩⟩; refine ⟨_, rfl, ?_⟩) | ((with_reducible refine gate_callee (f := 10) rfl ?_); refine goesL_ (some 18) rfl rfl Tryd.func10 (by kernel_rfl) rfl #[.agg #[.int .i64 1, .int .i64 0, .string (⟨#[120]⟩ : ByteArray)], .int .i64 a1] rfl aO ?_; (with_reducible refine (chain_May.calls 1 0 (⟨#[120]⟩ : ByteArray) a1 false _ A38.out).mono ?_); rintro e w41 ⟨rfl, hb⟩; refine ⟨_, rfl, ?_⟩; replace HB := as_ (below_step bA hb); (try clear hb); (try clear hb2); (try clear hk); (try clear hi)) | (go_at_call 12; (with_reducible refine (withylaw12_fixed.calls k  t246 _ A40.out).mono ?_); rintro e w42 ⟨rfl, hb⟩; replace HB := as_ (below_step bA hb); (try clear hb); (try clear hb2); (try clear hk); (try clear hi)))
  go_ret
  exact ⟨by first | rfl | (simp [errW_none, errW_some] <;> rfl) | (simp only [← hji3, ← hjs6]; first | rfl | (simp [errW_none, errW_some] <;> rfl)) | (simp [*, errW_none, errW_some] <;> rfl), by repeat (first | (with_reducible first | exact HB.out | apply below_alloc | apply pw_below_drewN | apply below_drew1) | exact HB.out)⟩
 subst c8
 have H1 : ((chain_Parts.f k (js6) a1).bind fun t247 => (withylaw12_ChainParts.l0 k js6 a1 t247 (⟨#[]⟩ : ByteArray) 0)) = some r := by rw [if_pos rfl] at H; exact H
 clear H
 have H := H1
 clear H1
 replace H := bM H
 obtain ⟨t247, A90, H⟩ := H
 replace H : (withylaw12_ChainParts.l0 k js6 a1 t247 (⟨#[]⟩ : ByteArray) 0) = some r := H
 have A9 := Aside0.mk A90
 clear A90
 have H' := Aside0.mk H
 clear H
 go_enter Tryd.func4, Tryd.ntmps4
 (try simp only [List.append_eq, List.cons_append, List.nil_append])
 go_wp2_with (first | ((with_reducible refine gate_callee (f := 13) rfl ?_); refine goesL_ (some 14) rfl rfl Tryd.func13 (by kernel_rfl) rfl #[.int .i64 a1] rfl aO ?_; (with_reducible refine (withyref06_Size.calls a1 true _ A7.out).mono ?_); rintro e w' ⟨rfl, ⟨nd, rfl⟩⟩; refine ⟨_, rfl, ?_⟩) | ((with_reducible refine gate_callee (f := 14) rfl ?_); refine goesL_ (some 25) rfl rfl Tryd.func14 (by kernel_rfl) rfl #[.string js6, .int .i64 a1] rfl aO ?_; (with_reducible refine (chain_Parts.calls k js6 a1 t247 _ A9.out).mono ?_); rintro e w10 ⟨v248, rfl, ho0, hb⟩; refine ⟨_, rfl, ?_⟩; have HO249 := as_ (Kd.R_lower ho0 (below_size bA)); replace HB := as_ (below_step bA hb); (try clear hb); (try clear hb2); (try clear hk); (try clear hi); (try clear ho0)))
 go_loopg [6, 7] k (fun kq v6 v7 w' => ∃ (x6_1 : ByteArray) (x7_1 : Int), v6 = .string x6_1 ∧ v7 = .int .i64 x7_1 ∧ Aside0 (withylaw12_ChainParts.l0 kq js6 a1 t247 x6_1 x7_1 = some r) ∧ Aside0 (kq ≤ k) ∧ Aside0 (Kd.R Kd.string 9 w' w.heap.size (fun _ => True) v248 t247) ∧ Aside0 (Below w.heap.size w w'))
 case atStart => exact ⟨((⟨#[]⟩ : ByteArray)), (0), (by first | rfl | (simp; done) | (simp [*]; done)), (by first | rfl | (simp; done) | (simp [*]; done)), H', ⟨Nat.le_refl _⟩, ⟨by (with_reducible repeat (first | apply Kd.R_alloc | apply Kd.R_drewN | apply Kd.R_drew)); exact HO249.out⟩, ⟨by repeat (first | (with_reducible first | exact HB.out | apply below_alloc | apply pw_below_drewN | apply below_drew1) | exact HB.out)⟩⟩
 case round =>
  clear H'
  try clear c1
  try clear p2
  try clear c4
  try clear c4b0
  try clear c4b1
  try clear c5
  try clear c5b0
  try clear c5b1
  try clear c8
  obtain ⟨x6_1, x7_1, rfl, rfl, HA, HK1, HO_5, HB⟩ := hrel
  cases gk with
  | zero => exact absurd HA.out (by simp [withylaw12_ChainParts.l0])
  | succ k1 =>
   have H := HA.out
   clear HA
   simp only [withylaw12_ChainParts.l0] at H
   by_cases c11 : x7_1 < (t247.length : Int)
   rotate_left
   ·rw [if_neg c11] at H
    have c11b0 : decide (x7_1 < (t247.length : Int)) = false := decide_eq_false c11
    clear c11
    by_cases c31 : x6_1.toList = js6.toList
    rotate_left
    ·rw [if_neg c31] at H
     exact absurd H (by simp)
    rw [if_pos c31] at H
    have c31b0 : (x6_1.toList == js6.toList) = true := beq_iff_eq.mpr c31
    have c31b1 : (x6_1.toList != js6.toList) = false := bne_eq_false_iff_eq.mpr c31
    clear c31
    replace H := bM H
    obtain ⟨t259, A320, H⟩ := H
    replace H : (if t259 = (t247.length : Int) then ((withylaw12_fixed.f k1).bind fun t260 => (some t260)) else (none)) = some r := H
    have A32 := Aside0.mk A320
    clear A320
    by_cases c33 : t259 = (t247.length : Int)
    rotate_left
    ·rw [if_neg c33] at H
     exact absurd H (by simp)
    rw [if_pos c33] at H
    have c33b0 : (t259 == (t247.length : Int)) = true := beq_iff_eq.mpr c33
    have c33b1 : (t259 != (t247.length : Int)) = false := bne_eq_false_iff_eq.mpr c33
    clear c33
    replace H := bM H
    obtain ⟨t260, A340, H⟩ := H
    replace H : (some t260) = some r := H
    have A34 := Aside0.mk A340
    clear A340
    obtain rfl := Option.some.inj H
    obtain ⟨Ao35, co35, eo35⟩ := Kd.R_slice HO_5.out
    subst eo35
    go_wp2_with (first | (go_at_call 15; (with_reducible refine (chain_Pages.calls (js6.size : Int) a1 t259 _ A32.out).mono ?_); rintro e w36 ⟨rfl, hb⟩; replace HO_5 := as_ (Kd.R_below (by (with_reducible repeat (first | apply Kd.R_alloc | apply Kd.R_drewN | apply Kd.R_drew)); exact HO_5.out) hb); replace HB := as_ (below_step bA hb); (try clear hb); (try clear hb2); (try clear hk); (try clear hi)) | (go_at_call 12; (with_reducible refine (withylaw12_fixed.calls k1  t260 _ A34.out).mono ?_); rintro e w37 ⟨rfl, hb⟩; replace HO_5 := as_ (Kd.R_below (by (with_reducible repeat (first | apply Kd.R_alloc | apply Kd.R_drewN | apply Kd.R_drew)); exact HO_5.out) hb); replace HB := as_ (below_step bA hb); (try clear hb); (try clear hb2); (try clear hk); (try clear hi)))
    go_ret
    exact ⟨by first | rfl | (simp [errW_none, errW_some] <;> rfl) | (simp only [← hji3, ← hjs6]; first | rfl | (simp [errW_none, errW_some] <;> rfl)) | (simp [*, errW_none, errW_some] <;> rfl), by repeat (first | (with_reducible first | exact HB.out | apply below_alloc | apply pw_below_drewN | apply below_drew1) | exact HB.out)⟩
   rw [if_pos c11] at H
   have c11b0 : decide (x7_1 < (t247.length : Int)) = true := decide_eq_true c11
   clear c11
   by_cases c12 : 0 ≤ x7_1
   rotate_left
   ·rw [if_neg c12] at H
    exact absurd H (by simp)
   rw [if_pos c12] at H
   have c12b0 : decide (0 ≤ x7_1) = true := decide_eq_true c12
   clear c12
   by_cases c13 : ((rdOf ByteArray.empty t247 x7_1).size : Int) < 1
   ·rw [if_pos c13] at H
    exact absurd H (by simp)
   rw [if_neg c13] at H
   have c13b0 : decide (((rdOf ByteArray.empty t247 x7_1).size : Int) < 1) = false := decide_eq_false c13
   have c13b1 : decide ((rdOf ByteArray.empty t247 x7_1).size < 1) = false := decide_eq_false (by omega)
   clear c13
   by_cases c14 : ((rdOf ByteArray.empty t247 x7_1).size : Int) > (wrap64 (a1 - 16))
   ·rw [if_pos c14] at H
    exact absurd H (by simp)
   rw [if_neg c14] at H
   have c14b0 : decide ((wrap64 (a1 - 16)) < ((rdOf ByteArray.empty t247 x7_1).size : Int)) = false := decide_eq_false c14
   clear c14
   by_cases c15 : (wrap64 (x7_1 + 1)) < (t247.length : Int)
   rotate_left
   ·rw [if_neg c15] at H
    have c15b0 : decide ((wrap64 (x7_1 + 1)) < (t247.length : Int)) = false := decide_eq_false c15
    clear c15
    obtain ⟨ji24, hji24⟩ : ∃ j_ : Int, (mn 1 (wrap64 ((wrap64 ((t247.length : Int) - 1)) - x7_1))) = j_ := ⟨_, rfl⟩
    replace H : ((chain_May.f 1 (wrap64 (2 * (ji24))) (rdOf ByteArray.empty t247 x7_1) a1).bind fun t257 => (if t257 = true then (if x6_1.size + (rdOf ByteArray.empty t247 x7_1).size ≤ 9223372036854775807 then (withylaw12_ChainParts.l0 k1 js6 a1 t247 (x6_1 ++ (rdOf ByteArray.empty t247 x7_1)) (wrap64 (x7_1 + 1))) else (none)) else (none))) = some r := by first | (rw [hji24] at H; exact H) | (simp only [hji24] at H ⊢; exact H)
    have hji24_ : (if (wrap64 ((wrap64 ((t247.length : Int) - 1)) - x7_1)) < 1 then (wrap64 ((wrap64 ((t247.length : Int) - 1)) - x7_1)) else 1) = ji24 := hji24
    replace H := bM H
    obtain ⟨t257, A250, H⟩ := H
    replace H : (if t257 = true then (if x6_1.size + (rdOf ByteArray.empty t247 x7_1).size ≤ 9223372036854775807 then (withylaw12_ChainParts.l0 k1 js6 a1 t247 (x6_1 ++ (rdOf ByteArray.empty t247 x7_1)) (wrap64 (x7_1 + 1))) else (none)) else (none)) = some r := H
    have A25 := Aside0.mk A250
    clear A250
    by_cases c26 : t257 = true
    rotate_left
    ·replace c26 := Bool.eq_false_iff.mpr c26
     subst c26
     have H1 : (none) = some r := by rw [if_neg (show ¬ (false = true) by decide)] at H; exact H
     clear H
     have H := H1
     clear H1
     exact absurd H (by simp)
    subst c26
    have H1 : (if x6_1.size + (rdOf ByteArray.empty t247 x7_1).size ≤ 9223372036854775807 then (withylaw12_ChainParts.l0 k1 js6 a1 t247 (x6_1 ++ (rdOf ByteArray.empty t247 x7_1)) (wrap64 (x7_1 + 1))) else (none)) = some r := by rw [if_pos rfl] at H; exact H
    clear H
    have H := H1
    clear H1
    by_cases c27 : x6_1.size + (rdOf ByteArray.empty t247 x7_1).size ≤ 9223372036854775807
    rotate_left
    ·rw [if_neg c27] at H
     exact absurd H (by simp)
    rw [if_pos c27] at H
    have c27b0 := eq_true c27
    have c27b1 : decide (x6_1.size + (rdOf ByteArray.empty t247 x7_1).size ≤ 9223372036854775807) = true := decide_eq_true c27
    try have c27b2 : (9223372036854775807 < x6_1.size + (rdOf ByteArray.empty t247 x7_1).size) = False := eq_false (Nat.not_lt.2 c27)
    obtain ⟨js28, hjs28⟩ : ∃ j_ : ByteArray, (x6_1 ++ (rdOf ByteArray.empty t247 x7_1)) = j_ := ⟨_, rfl⟩
    replace H : (withylaw12_ChainParts.l0 k1 js6 a1 t247 js28 (wrap64 (x7_1 + 1))) = some r := by first | (rw [hjs28] at H; exact H) | (simp only [hjs28] at H ⊢; exact H)
    (try rw [hjs28] at A25)
    have H' := Aside0.mk H
    clear H
    obtain ⟨Ao29, co29, eo29⟩ := Kd.R_slice HO_5.out
    subst eo29
    have p250 : 0 ≤ (x7_1 : Int) := of_decide_eq_true aM
    have q250 : x7_1 < (t247.length : Int) := of_decide_eq_true aM
    obtain ⟨ad250, e250, hx250_0⟩ := Kd.at_string (Kd.R_reads' HO_5.out).2.2 x7_1 p250 q250
    cases e250
    replace p250 := eq_true p250
    replace q250 := eq_true q250
    have p251 : 0 ≤ (x7_1 : Int) := of_decide_eq_true aM
    have q251 : x7_1 < (t247.length : Int) := of_decide_eq_true aM
    obtain ⟨ad251, e251, hx251_0⟩ := Kd.at_string (Kd.R_reads' HO_5.out).2.2 x7_1 p251 q251
    obtain rfl : ad250 = ad251 := (by injection e251)
    replace p251 := eq_true p251
    replace q251 := eq_true q251
    have p256 : 0 ≤ (x7_1 : Int) := of_decide_eq_true aM
    have q256 : x7_1 < (t247.length : Int) := of_decide_eq_true aM
    obtain ⟨ad256, e256, hx256_0⟩ := Kd.at_string (Kd.R_reads' HO_5.out).2.2 x7_1 p256 q256
    obtain rfl : ad250 = ad256 := (by injection e256)
    replace p256 := eq_true p256
    replace q256 := eq_true q256
    go_wp2_with (first | (go_at_call 10; (first | (with_reducible refine (chain_May.calls 1 (wrap64 (2 * (ji24))) (rdOf ByteArray.empty t247 x7_1) a1 true _ A25.out).mono ?_) | (with_reducible refine (chain_May.calls 1 (2 * (ji24)) (rdOf ByteArray.empty t247 x7_1) a1 true _ (by have e_ := A25.out; rwa [(by unfold wrap64; omega : wrap64 (2 * (ji24)) = (2 * (ji24)))] at e_)).mono ?_)); rintro e w30 ⟨rfl, hb⟩; replace HO_5 := as_ (Kd.R_below (by (with_reducible repeat (first | apply Kd.R_alloc | apply Kd.R_drewN | apply Kd.R_drew)); exact HO_5.out) hb); replace HB := as_ (below_step bA hb); (try clear hb); (try clear hb2); (try clear hk); (try clear hi); have p258 : 0 ≤ (x7_1 : Int) := of_decide_eq_true aM; have q258 : x7_1 < (t247.length : Int) := of_decide_eq_true aM; obtain ⟨ad258, e258, hx258_0⟩ := Kd.at_string (Kd.R_reads' HO_5.out).2.2 x7_1 p258 q258; obtain rfl : ad250 = ad258 := (by injection e258); replace p258 := eq_true p258; replace q258 := eq_true q258))
    go_roundg k1
    case measure => have := HK1.out; omega
    case rel => exact ⟨(js28), (wrap64 (x7_1 + 1)), (by first | rfl | (simp; done) | (simp only [← hjs28] <;> (first | rfl | simp)) | (simp [*]; done)), (by first | rfl | (simp; done) | (simp [*]; done)), H', ⟨by have := HK1.out; omega⟩, ⟨by (with_reducible repeat (first | apply Kd.R_alloc | apply Kd.R_drewN | apply Kd.R_drew)); exact HO_5.out⟩, ⟨by repeat (first | (with_reducible first | exact HB.out | apply below_alloc | apply pw_below_drewN | apply below_drew1) | exact HB.out)⟩⟩
   rw [if_pos c15] at H
   have c15b0 : decide ((wrap64 (x7_1 + 1)) < (t247.length : Int)) = true := decide_eq_true c15
   clear c15
   by_cases c16 : ((rdOf ByteArray.empty t247 x7_1).size : Int) = (wrap64 (a1 - 16))
   rotate_left
   ·rw [if_neg c16] at H
    exact absurd H (by simp)
   rw [if_pos c16] at H
   have c16b0 : (((rdOf ByteArray.empty t247 x7_1).size : Int) == (wrap64 (a1 - 16))) = true := beq_iff_eq.mpr c16
   have c16b1 : (((rdOf ByteArray.empty t247 x7_1).size : Int) != (wrap64 (a1 - 16))) = false := bne_eq_false_iff_eq.mpr c16
   clear c16
   obtain ⟨ji17, hji17⟩ : ∃ j_ : Int, (mn 1 (wrap64 ((wrap64 ((t247.length : Int) - 1)) - x7_1))) = j_ := ⟨_, rfl⟩
   (try clear hji24w)
   (try clear hji24)
   replace H : ((chain_May.f 1 (wrap64 (2 * (ji17))) (rdOf ByteArray.empty t247 x7_1) a1).bind fun t254 => (if t254 = true then (if x6_1.size + (rdOf ByteArray.empty t247 x7_1).size ≤ 9223372036854775807 then (withylaw12_ChainParts.l0 k1 js6 a1 t247 (x6_1 ++ (rdOf ByteArray.empty t247 x7_1)) (wrap64 (x7_1 + 1))) else (none)) else (none))) = some r := by first | (rw [hji17] at H; exact H) | (simp only [hji17] at H ⊢; exact H)
   have hji17_ : (if (wrap64 ((wrap64 ((t247.length : Int) - 1)) - x7_1)) < 1 then (wrap64 ((wrap64 ((t247.length : Int) - 1)) - x7_1)) else 1) = ji17 := hji17
   replace H := bM H
   obtain ⟨t254, A180, H⟩ := H
   replace H : (if t254 = true then (if x6_1.size + (rdOf ByteArray.empty t247 x7_1).size ≤ 9223372036854775807 then (withylaw12_ChainParts.l0 k1 js6 a1 t247 (x6_1 ++ (rdOf ByteArray.empty t247 x7_1)) (wrap64 (x7_1 + 1))) else (none)) else (none)) = some r := H
   have A18 := Aside0.mk A180
   clear A180
   by_cases c19 : t254 = true
   rotate_left
   ·replace c19 := Bool.eq_false_iff.mpr c19
    subst c19
    have H1 : (none) = some r := by rw [if_neg (show ¬ (false = true) by decide)] at H; exact H
    clear H
    have H := H1
    clear H1
    exact absurd H (by simp)
   subst c19
   have H1 : (if x6_1.size + (rdOf ByteArray.empty t247 x7_1).size ≤ 9223372036854775807 then (withylaw12_ChainParts.l0 k1 js6 a1 t247 (x6_1 ++ (rdOf ByteArray.empty t247 x7_1)) (wrap64 (x7_1 + 1))) else (none)) = some r := by rw [if_pos rfl] at H; exact H
   clear H
   have H := H1
   clear H1
   by_cases c20 : x6_1.size + (rdOf ByteArray.empty t247 x7_1).size ≤ 9223372036854775807
   rotate_left
   ·rw [if_neg c20] at H
    exact absurd H (by simp)
   rw [if_pos c20] at H
   have c20b0 := eq_true c20
   have c20b1 : decide (x6_1.size + (rdOf ByteArray.empty t247 x7_1).size ≤ 9223372036854775807) = true := decide_eq_true c20
   try have c20b2 : (9223372036854775807 < x6_1.size + (rdOf ByteArray.empty t247 x7_1).size) = False := eq_false (Nat.not_lt.2 c20)
   obtain ⟨js21, hjs21⟩ : ∃ j_ : ByteArray, (x6_1 ++ (rdOf ByteArray.empty t247 x7_1)) = j_ := ⟨_, rfl⟩
   replace H : (withylaw12_ChainParts.l0 k1 js6 a1 t247 js21 (wrap64 (x7_1 + 1))) = some r := by first | (rw [hjs21] at H; exact H) | (simp only [hjs21] at H ⊢; exact H)
   (try rw [hjs21] at A18)
   have H' := Aside0.mk H
   clear H
   obtain ⟨Ao22, co22, eo22⟩ := Kd.R_slice HO_5.out
   subst eo22
   have p250 : 0 ≤ (x7_1 : Int) := of_decide_eq_true aM
   have q250 : x7_1 < (t247.length : Int) := of_decide_eq_true aM
   obtain ⟨ad250, e250, hx250_0⟩ := Kd.at_string (Kd.R_reads' HO_5.out).2.2 x7_1 p250 q250
   cases e250
   replace p250 := eq_true p250
   replace q250 := eq_true q250
   have p251 : 0 ≤ (x7_1 : Int) := of_decide_eq_true aM
   have q251 : x7_1 < (t247.length : Int) := of_decide_eq_true aM
   obtain ⟨ad251, e251, hx251_0⟩ := Kd.at_string (Kd.R_reads' HO_5.out).2.2 x7_1 p251 q251
   obtain rfl : ad250 = ad251 := (by injection e251)
   replace p251 := eq_true p251
   replace q251 := eq_true q251
   have p252 : 0 ≤ (x7_1 : Int) := of_decide_eq_true aM
   have q252 : x7_1 < (t247.length : Int) := of_decide_eq_true aM
   obtain ⟨ad252, e252, hx252_0⟩ := Kd.at_string (Kd.R_reads' HO_5.out).2.2 x7_1 p252 q252
   obtain rfl : ad250 = ad252 := (by injection e252)
   replace p252 := eq_true p252
   replace q252 := eq_true q252
   have p253 : 0 ≤ (x7_1 : Int) := of_decide_eq_true aM
   have q253 : x7_1 < (t247.length : Int) := of_decide_eq_true aM
   obtain ⟨ad253, e253, hx253_0⟩ := Kd.at_string (Kd.R_reads' HO_5.out).2.2 x7_1 p253 q253
   obtain rfl : ad250 = ad253 := (by injection e253)
   replace p253 := eq_true p253
   replace q253 := eq_true q253
   go_wp2_with (first | (go_at_call 10; (first | (with_reducible refine (chain_May.calls 1 (wrap64 (2 * (ji17))) (rdOf ByteArray.empty t247 x7_1) a1 true _ A18.out).mono ?_) | (with_reducible refine (chain_May.calls 1 (2 * (ji17)) (rdOf ByteArray.empty t247 x7_1) a1 true _ (by have e_ := A18.out; rwa [(by unfold wrap64; omega : wrap64 (2 * (ji17)) = (2 * (ji17)))] at e_)).mono ?_)); rintro e w23 ⟨rfl, hb⟩; replace HO_5 := as_ (Kd.R_below (by (with_reducible repeat (first | apply Kd.R_alloc | apply Kd.R_drewN | apply Kd.R_drew)); exact HO_5.out) hb); replace HB := as_ (below_step bA hb); (try clear hb); (try clear hb2); (try clear hk); (try clear hi); have p255 : 0 ≤ (x7_1 : Int) := of_decide_eq_true aM; have q255 : x7_1 < (t247.length : Int) := of_decide_eq_true aM; obtain ⟨ad255, e255, hx255_0⟩ := Kd.at_string (Kd.R_reads' HO_5.out).2.2 x7_1 p255 q255; obtain rfl : ad250 = ad255 := (by injection e255); replace p255 := eq_true p255; replace q255 := eq_true q255))
   go_roundg k1
   case measure => have := HK1.out; omega
   case rel => exact ⟨(js21), (wrap64 (x7_1 + 1)), (by first | rfl | (simp; done) | (simp only [← hjs21] <;> (first | rfl | simp)) | (simp [*]; done)), (by first | rfl | (simp; done) | (simp [*]; done)), H', ⟨by have := HK1.out; omega⟩, ⟨by (with_reducible repeat (first | apply Kd.R_alloc | apply Kd.R_drewN | apply Kd.R_drew)); exact HO_5.out⟩, ⟨by repeat (first | (with_reducible first | exact HB.out | apply below_alloc | apply pw_below_drewN | apply below_drew1) | exact HB.out)⟩⟩
/-! ### withylaw12_ChainPages: function 5 -/
def withylaw12_ChainPages.j0 : Nat → Int → Int → Int → Int → Int → Int → Option (Bool)
 | 0, _, _, _, _, _, _ => none
 | k + 1, x2, x7, x8, x9, x10, x11 => (chain_Pages.f (wrap64 (x7 + x8)) x2).bind fun t265 => ((chain_Pages.f (wrap64 (x7 + 1)) x2).bind fun t266 => (if t266 = (wrap64 (x9 + x11)) then (if t265 ≤ (wrap64 (x9 + x10)) then (if t265 ≥ (mx x9 x10) then ((chain_Pages.f (wrap64 (-x7)) x2).bind fun t267 => (if t267 = 0 then (if (wrap64 (x9 * (wrap64 (x2 - 16)))) ≥ x7 then (if (wrap64 ((wrap64 (x9 - 1)) * (wrap64 (x2 - 16)))) < (mx x7 1) then ((withylaw12_fixed.f k).bind fun t268 => (some t268)) else (none)) else (none)) else (none))) else (none)) else (none)) else (none)))
def withylaw12_ChainPages.f (k : Nat) (a0 : Int) (a1 : Int) (a2 : Int) : Option (Bool) := (withyref06_Size.f a2).bind fun t261 => (if t261 = true then ((chain_Pages.f (Int.tmod (wrap64 (a0)) 1048576) a2).bind fun t263 => ((chain_Pages.f (Int.tmod (wrap64 (a1)) 1048576) a2).bind fun t264 => (if (wrap64 (a2 - 16)) = 0 then (none) else (if (Int.tmod (Int.tmod (wrap64 (a0)) 1048576) (wrap64 (a2 - 16))) = 0 then (withylaw12_ChainPages.j0 k a2 (Int.tmod (wrap64 (a0)) 1048576) (Int.tmod (wrap64 (a1)) 1048576) t263 t264 1) else (withylaw12_ChainPages.j0 k a2 (Int.tmod (wrap64 (a0)) 1048576) (Int.tmod (wrap64 (a1)) 1048576) t263 t264 0))))) else ((withylaw12_fixed.f k).bind fun t262 => (some t262)))
theorem withylaw12_ChainPages.mono_l : ∀ k, (∀ y0 y1 y2 y3 y4 y5, LeO (withylaw12_ChainPages.j0 k y0 y1 y2 y3 y4 y5) (withylaw12_ChainPages.j0 (k + 1) y0 y1 y2 y3 y4 y5))
 | 0 => fun _ _ _ _ _ _ r h => by simp [withylaw12_ChainPages.j0] at h
 | k + 1 => by
  have ih0 := withylaw12_ChainPages.mono_l k
  ·intro y0 y1 y2 y3 y4 y5
   unfold withylaw12_ChainPages.j0
   repeat' first
   | (with_reducible exact ih0 _ _ _ _ _ _)
   | (with_reducible exact withylaw12_fixed.mono _)
   | (with_reducible exact LeO.refl _)
   | (with_reducible exact LeO.none _)
   | (with_reducible refine LeO.ite ?_ ?_)
   | (with_reducible refine LeO.bind ?_ (fun _ => ?_))
   | exact ih0 _ _ _ _ _ _
   | exact withylaw12_fixed.mono _
   | exact LeO.none _
   | refine LeO.ite ?_ ?_
   | refine LeO.bind ?_ (fun _ => ?_)
theorem withylaw12_ChainPages.mono : ∀ a0 a1 a2 k, LeO (withylaw12_ChainPages.f k a0 a1 a2) (withylaw12_ChainPages.f (k + 1) a0 a1 a2) := by
 intro a0 a1 a2 k
 have ih0 := withylaw12_ChainPages.mono_l k
 unfold withylaw12_ChainPages.f
 repeat' first
   | (with_reducible exact ih0 _ _ _ _ _ _)
   | (with_reducible exact withylaw12_fixed.mono _)
   | (with_reducible exact LeO.refl _)
   | (with_reducible exact LeO.none _)
   | (with_reducible refine LeO.ite ?_ ?_)
   | (with_reducible refine LeO.bind ?_ (fun _ => ?_))
   | exact ih0 _ _ _ _ _ _
   | exact withylaw12_fixed.mono _
   | exact LeO.none _
   | refine LeO.ite ?_ ?_
   | refine LeO.bind ?_ (fun _ => ?_)
set_option maxHeartbeats 8000000 in
set_option maxRecDepth 100000 in
theorem withylaw12_ChainPages.calls (k : Nat) (a0 : Int) (a1 : Int) (a2 : Int) (r : Bool) (w : World) (h : withylaw12_ChainPages.f k a0 a1 a2 = some r) :
  Calls Tryd.prog 5 #[.int .u32 a0, .int .u32 a1, .int .i64 a2] w fun e w' => e = .returned (.bool r) ∧ Below w.heap.size w w' := by
 have HB := as_ (Below.refl w.heap.size w)
 have H : ((withyref06_Size.f a2).bind fun t261 => (if t261 = true then ((chain_Pages.f (Int.tmod (wrap64 (a0)) 1048576) a2).bind fun t263 => ((chain_Pages.f (Int.tmod (wrap64 (a1)) 1048576) a2).bind fun t264 => (if (wrap64 (a2 - 16)) = 0 then (none) else (if (Int.tmod (Int.tmod (wrap64 (a0)) 1048576) (wrap64 (a2 - 16))) = 0 then (withylaw12_ChainPages.j0 k a2 (Int.tmod (wrap64 (a0)) 1048576) (Int.tmod (wrap64 (a1)) 1048576) t263 t264 1) else (withylaw12_ChainPages.j0 k a2 (Int.tmod (wrap64 (a0)) 1048576) (Int.tmod (wrap64 (a1)) 1048576) t263 t264 0))))) else ((withylaw12_fixed.f k).bind fun t262 => (some t262)))) = some r := h
 clear h
 replace H := bM H
 obtain ⟨t261, A40, H⟩ := H
 replace H : (if t261 = true then ((chain_Pages.f (Int.tmod (wrap64 (a0)) 1048576) a2).bind fun t263 => ((chain_Pages.f (Int.tmod (wrap64 (a1)) 1048576) a2).bind fun t264 => (if (wrap64 (a2 - 16)) = 0 then (none) else (if (Int.tmod (Int.tmod (wrap64 (a0)) 1048576) (wrap64 (a2 - 16))) = 0 then (withylaw12_ChainPages.j0 k a2 (Int.tmod (wrap64 (a0)) 1048576) (Int.tmod (wrap64 (a1)) 1048576) t263 t264 1) else (withylaw12_ChainPages.j0 k a2 (Int.tmod (wrap64 (a0)) 1048576) (Int.tmod (wrap64 (a1)) 1048576) t263 t264 0))))) else ((withylaw12_fixed.f k).bind fun t262 => (some t262))) = some r := H
 have A4 := Aside0.mk A40
 clear A40
 by_cases c5 : t261 = true
 rotate_left
 ·replace c5 := Bool.eq_false_iff.mpr c5
  subst c5
  have H1 : ((withylaw12_fixed.f k).bind fun t262 => (some t262)) = some r := by rw [if_neg (show ¬ (false = true) by decide)] at H; exact H
  clear H
  have H := H1
  clear H1
  replace H := bM H
  obtain ⟨t262, A290, H⟩ := H
  replace H : (some t262) = some r := H
  have A29 := Aside0.mk A290
  clear A290
  obtain rfl := Option.some.inj H
  go_enter Tryd.func5, Tryd.ntmps5
  (try simp only [List.append_eq, List.cons_append, List.nil_append])
  go_wp2_with (first | ((with_reducible refine gate_callee (f := 13) rfl ?_); refine goesL_ (some 14) rfl rfl Tryd.func13 (by kernel_rfl) rfl #[.int .i64 a2] rfl aO ?_; (with_reducible refine (withyref06_Size.calls a2 false _ A4.out).mono ?_); rintro e w' ⟨rfl, ⟨nd, rfl⟩⟩; refine ⟨_, rfl, ?_⟩) | ((with_reducible refine gate_callee (f := 12) rfl ?_); refine goesL_ (some 16) rfl rfl Tryd.func12 (by kernel_rfl) rfl #[] rfl aO ?_; (with_reducible refine (withylaw12_fixed.calls k  t262 _ A29.out).mono ?_); rintro e w30 ⟨rfl, hb⟩; refine ⟨_, rfl, ?_⟩; replace HB := as_ (below_step bA hb); (try clear hb); (try clear hb2); (try clear hk); (try clear hi)))
  go_ret
  exact ⟨eW, by repeat (first | (with_reducible first | exact HB.out | apply below_alloc | apply pw_below_drewN | apply below_drew1) | exact HB.out)⟩
 
 subst c5
 have H1 : ((chain_Pages.f (Int.tmod (wrap64 (a0)) 1048576) a2).bind fun t263 => ((chain_Pages.f (Int.tmod (wrap64 (a1)) 1048576) a2).bind fun t264 => (if (wrap64 (a2 - 16)) = 0 then (none) else (if (Int.tmod (Int.tmod (wrap64 (a0)) 1048576) (wrap64 (a2 - 16))) = 0 then (withylaw12_ChainPages.j0 k a2 (Int.tmod (wrap64 (a0)) 1048576) (Int.tmod (wrap64 (a1)) 1048576) t263 t264 1) else (withylaw12_ChainPages.j0 k a2 (Int.tmod (wrap64 (a0)) 1048576) (Int.tmod (wrap64 (a1)) 1048576) t263 t264 0))))) = some r := by rw [if_pos rfl] at H; exact H
 clear H
 have H := H1
 clear H1
 replace H := bM H
 obtain ⟨t263, A60, H⟩ := H
 replace H : ((chain_Pages.f (Int.tmod (wrap64 (a1)) 1048576) a2).bind fun t264 => (if (wrap64 (a2 - 16)) = 0 then (none) else (if (Int.tmod (Int.tmod (wrap64 (a0)) 1048576) (wrap64 (a2 - 16))) = 0 then (withylaw12_ChainPages.j0 k a2 (Int.tmod (wrap64 (a0)) 1048576) (Int.tmod (wrap64 (a1)) 1048576) t263 t264 1) else (withylaw12_ChainPages.j0 k a2 (Int.tmod (wrap64 (a0)) 1048576) (Int.tmod (wrap64 (a1)) 1048576) t263 t264 0)))) = some r := H
 have A6 := Aside0.mk A60
 clear A60
 replace H := bM H
 obtain ⟨t264, A70, H⟩ := H
 replace H : (if (wrap64 (a2 - 16)) = 0 then (none) else (if (Int.tmod (Int.tmod (wrap64 (a0)) 1048576) (wrap64 (a2 - 16))) = 0 then (withylaw12_ChainPages.j0 k a2 (Int.tmod (wrap64 (a0)) 1048576) (Int.tmod (wrap64 (a1)) 1048576) t263 t264 1) else (withylaw12_ChainPages.j0 k a2 (Int.tmod (wrap64 (a0)) 1048576) (Int.tmod (wrap64 (a1)) 1048576) t263 t264 0))) = some r := H
 have A7 := Aside0.mk A70
 clear A70
 by_cases c8 : (wrap64 (a2 - 16)) = 0
 ·rw [if_pos c8] at H
  exact absurd H (by simp)
 rw [if_neg c8] at H
 have c8b0 : ((wrap64 (a2 - 16)) == 0) = false := beq_eq_false_iff_ne.mpr c8
 have c8b1 : ((wrap64 (a2 - 16)) != 0) = true := bne_iff_ne.mpr c8
 have HC9 := Aside0.mk H
 clear H
 go_enter Tryd.func5, Tryd.ntmps5
 (try simp only [List.append_eq, List.cons_append, List.nil_append])
 go_upto_if 33 with (first | ((with_reducible refine gate_callee (f := 13) rfl ?_); refine goesL_ (some 14) rfl rfl Tryd.func13 (by kernel_rfl) rfl #[.int .i64 a2] rfl aO ?_; (with_reducible refine (withyref06_Size.calls a2 true _ A4.out).mono ?_); rintro e w' ⟨rfl, ⟨nd, rfl⟩⟩; refine ⟨_, rfl, ?_⟩) | ((with_reducible refine gate_callee (f := 15) rfl ?_); refine goesL_ (some 25) rfl rfl Tryd.func15 (by kernel_rfl) rfl #[.int .i64 (Int.tmod (wrap64 (a0)) 1048576), .int .i64 a2] rfl aO ?_; (first | (with_reducible refine (chain_Pages.calls (Int.tmod (wrap64 (a0)) 1048576) a2 t263 _ A6.out).mono ?_) | (with_reducible refine (chain_Pages.calls (Int.tmod (a0) 1048576) a2 t263 _ (by have e_ := A6.out; rwa [(by unfold wrap64; omega : wrap64 (a0) = (a0))] at e_)).mono ?_)); rintro e w10 ⟨rfl, hb⟩; refine ⟨_, rfl, ?_⟩; replace HB := as_ (below_step bA hb); (try clear hb); (try clear hb2); (try clear hk); (try clear hi)) | ((with_reducible refine gate_callee (f := 15) rfl ?_); refine goesL_ (some 28) rfl rfl Tryd.func15 (by kernel_rfl) rfl #[.int .i64 (Int.tmod (wrap64 (a1)) 1048576), .int .i64 a2] rfl aO ?_; (first | (with_reducible refine (chain_Pages.calls (Int.tmod (wrap64 (a1)) 1048576) a2 t264 _ A7.out).mono ?_) | (with_reducible refine (chain_Pages.calls (Int.tmod (a1) 1048576) a2 t264 _ (by have e_ := A7.out; rwa [(by unfold wrap64; omega : wrap64 (a1) = (a1))] at e_)).mono ?_)); rintro e w11 ⟨rfl, hb⟩; refine ⟨_, rfl, ?_⟩; replace HB := as_ (below_step bA hb); (try clear hb); (try clear hb2); (try clear hk); (try clear hi)))
 (try simp only [Act.put, List.setIfInBounds_toArray, List.set_cons_zero, List.set_cons_succ])
 go_cut [11] (fun v11 wc => ∃ (kq : Nat) (x11_8 : Int), v11 = .int .i64 x11_8 ∧ Aside0 (withylaw12_ChainPages.j0 kq a2 (Int.tmod (wrap64 (a0)) 1048576) (Int.tmod (wrap64 (a1)) 1048576) t263 t264 x11_8 = some r) ∧ Aside0 (kq ≤ k) ∧ Aside0 (Below w.heap.size w wc))
 case first =>
  have H := HC9.out
  clear HC9
  by_cases c12 : (Int.tmod (Int.tmod (wrap64 (a0)) 1048576) (wrap64 (a2 - 16))) = 0
  rotate_left
  ·rw [if_neg c12] at H
   have c12b0 : ((Int.tmod (Int.tmod (wrap64 (a0)) 1048576) (wrap64 (a2 - 16))) == 0) = false := beq_eq_false_iff_ne.mpr c12
   have c12b1 : ((Int.tmod (Int.tmod (wrap64 (a0)) 1048576) (wrap64 (a2 - 16))) != 0) = true := bne_iff_ne.mpr c12
   (first | rw [c12b0] | (simp only [i64_w, i32_w]; rw [c12b0]) | rw [c12b1] | skip)
   have H' := Aside0.mk H
   clear H
   go_wp2
   go_meet
   case rel => exact ⟨_, (0), (by first | rfl | (simp; done) | (simp [*]; done)), H', ⟨by first | omega | exact Nat.le_refl _⟩, ⟨by repeat (first | (with_reducible first | exact HB.out | apply below_alloc | apply pw_below_drewN | apply below_drew1) | exact HB.out)⟩⟩
  rw [if_pos c12] at H
  have c12b0 : ((Int.tmod (Int.tmod (wrap64 (a0)) 1048576) (wrap64 (a2 - 16))) == 0) = true := beq_iff_eq.mpr c12
  have c12b1 : ((Int.tmod (Int.tmod (wrap64 (a0)) 1048576) (wrap64 (a2 - 16))) != 0) = false := bne_eq_false_iff_eq.mpr c12
  clear c12
  (first | rw [c12b0] | (simp only [i64_w, i32_w]; rw [c12b0]) | rw [c12b1] | skip)
  have H' := Aside0.mk H
  clear H
  go_wp2
  go_meet
  case rel => exact ⟨_, (1), (by first | rfl | (simp; done) | (simp [*]; done)), H', ⟨by first | omega | exact Nat.le_refl _⟩, ⟨by repeat (first | (with_reducible first | exact HB.out | apply below_alloc | apply pw_below_drewN | apply below_drew1) | exact HB.out)⟩⟩
 case rest =>
  clear HC9
  try clear c1
  try clear p2
  try clear c5
  try clear p6
  try clear c8
  try clear c8b0
  try clear c8b1
  try clear c12
  try clear c12b0
  try clear c12b1
  obtain ⟨kq, x11_8, rfl, HA, HJ8, HB⟩ := hcut
  cases kq with
  | zero => exact absurd HA.out (by simp [withylaw12_ChainPages.j0])
  | succ kj8 =>
   have H := HA.out
   clear HA
   simp only [withylaw12_ChainPages.j0] at H
   replace H := bM H
   obtain ⟨t265, A130, H⟩ := H
   replace H : ((chain_Pages.f (wrap64 ((Int.tmod (wrap64 (a0)) 1048576) + 1)) a2).bind fun t266 => (if t266 = (wrap64 (t263 + x11_8)) then (if t265 ≤ (wrap64 (t263 + t264)) then (if t265 ≥ (mx t263 t264) then ((chain_Pages.f (wrap64 (-(Int.tmod (wrap64 (a0)) 1048576))) a2).bind fun t267 => (if t267 = 0 then (if (wrap64 (t263 * (wrap64 (a2 - 16)))) ≥ (Int.tmod (wrap64 (a0)) 1048576) then (if (wrap64 ((wrap64 (t263 - 1)) * (wrap64 (a2 - 16)))) < (mx (Int.tmod (wrap64 (a0)) 1048576) 1) then ((withylaw12_fixed.f kj8).bind fun t268 => (some t268)) else (none)) else (none)) else (none))) else (none)) else (none)) else (none))) = some r := H
   have A13 := Aside0.mk A130
   clear A130
   replace H := bM H
   obtain ⟨t266, A140, H⟩ := H
   replace H : (if t266 = (wrap64 (t263 + x11_8)) then (if t265 ≤ (wrap64 (t263 + t264)) then (if t265 ≥ (mx t263 t264) then ((chain_Pages.f (wrap64 (-(Int.tmod (wrap64 (a0)) 1048576))) a2).bind fun t267 => (if t267 = 0 then (if (wrap64 (t263 * (wrap64 (a2 - 16)))) ≥ (Int.tmod (wrap64 (a0)) 1048576) then (if (wrap64 ((wrap64 (t263 - 1)) * (wrap64 (a2 - 16)))) < (mx (Int.tmod (wrap64 (a0)) 1048576) 1) then ((withylaw12_fixed.f kj8).bind fun t268 => (some t268)) else (none)) else (none)) else (none))) else (none)) else (none)) else (none)) = some r := H
   have A14 := Aside0.mk A140
   clear A140
   by_cases c15 : t266 = (wrap64 (t263 + x11_8))
   rotate_left
   ·rw [if_neg c15] at H
    exact absurd H (by simp)
   rw [if_pos c15] at H
   have c15b0 : (t266 == (wrap64 (t263 + x11_8))) = true := beq_iff_eq.mpr c15
   have c15b1 : (t266 != (wrap64 (t263 + x11_8))) = false := bne_eq_false_iff_eq.mpr c15
   clear c15
   by_cases c16 : t265 ≤ (wrap64 (t263 + t264))
   rotate_left
   ·rw [if_neg c16] at H
    exact absurd H (by simp)
   rw [if_pos c16] at H
   have c16b0 : decide (t265 ≤ (wrap64 (t263 + t264))) = true := decide_eq_true c16
   clear c16
   obtain ⟨ji17, hji17⟩ : ∃ j_ : Int, (mx t263 t264) = j_ := ⟨_, rfl⟩
   replace H : (if t265 ≥ (ji17) then ((chain_Pages.f (wrap64 (-(Int.tmod (wrap64 (a0)) 1048576))) a2).bind fun t267 => (if t267 = 0 then (if (wrap64 (t263 * (wrap64 (a2 - 16)))) ≥ (Int.tmod (wrap64 (a0)) 1048576) then (if (wrap64 ((wrap64 (t263 - 1)) * (wrap64 (a2 - 16)))) < (mx (Int.tmod (wrap64 (a0)) 1048576) 1) then ((withylaw12_fixed.f kj8).bind fun t268 => (some t268)) else (none)) else (none)) else (none))) else (none)) = some r := by first | (rw [hji17] at H; exact H) | (simp only [hji17] at H ⊢; exact H)
   (try rw [hji17] at A13)
   (try rw [hji17] at A14)
   have hji17_ : (if t263 < t264 then t264 else t263) = ji17 := hji17
   by_cases c18 : t265 ≥ (ji17)
   rotate_left
   ·rw [if_neg c18] at H
    exact absurd H (by simp)
   rw [if_pos c18] at H
   have c18b0 : decide ((ji17) ≤ t265) = true := decide_eq_true c18
   clear c18
   replace H := bM H
   obtain ⟨t267, A190, H⟩ := H
   replace H : (if t267 = 0 then (if (wrap64 (t263 * (wrap64 (a2 - 16)))) ≥ (Int.tmod (wrap64 (a0)) 1048576) then (if (wrap64 ((wrap64 (t263 - 1)) * (wrap64 (a2 - 16)))) < (mx (Int.tmod (wrap64 (a0)) 1048576) 1) then ((withylaw12_fixed.f kj8).bind fun t268 => (some t268)) else (none)) else (none)) else (none)) = some r := H
   have A19 := Aside0.mk A190
   clear A190
   by_cases c20 : t267 = 0
   rotate_left
   ·rw [if_neg c20] at H
    exact absurd H (by simp)
   rw [if_pos c20] at H
   have c20b0 : (t267 == 0) = true := beq_iff_eq.mpr c20
   have c20b1 : (t267 != 0) = false := bne_eq_false_iff_eq.mpr c20
   clear c20
   by_cases c21 : (wrap64 (t263 * (wrap64 (a2 - 16)))) ≥ (Int.tmod (wrap64 (a0)) 1048576)
   rotate_left
   ·rw [if_neg c21] at H
    exact absurd H (by simp)
   rw [if_pos c21] at H
   have c21b0 : decide ((Int.tmod (wrap64 (a0)) 1048576) ≤ (wrap64 (t263 * (wrap64 (a2 - 16))))) = true := decide_eq_true c21
   clear c21
   obtain ⟨ji22, hji22⟩ : ∃ j_ : Int, (mx (Int.tmod (wrap64 (a0)) 1048576) 1) = j_ := ⟨_, rfl⟩
   replace H : (if (wrap64 ((wrap64 (t263 - 1)) * (wrap64 (a2 - 16)))) < (ji22) then ((withylaw12_fixed.f kj8).bind fun t268 => (some t268)) else (none)) = some r := by first | (rw [hji22] at H; exact H) | (simp only [hji22] at H ⊢; exact H)
   (try rw [hji22] at A13)
   (try rw [hji22] at A14)
   (try rw [hji22] at A19)
   have hji22_ : (if (Int.tmod (wrap64 (a0)) 1048576) < 1 then 1 else (Int.tmod (wrap64 (a0)) 1048576)) = ji22 := hji22
   by_cases c23 : (wrap64 ((wrap64 (t263 - 1)) * (wrap64 (a2 - 16)))) < (ji22)
   rotate_left
   ·rw [if_neg c23] at H
    exact absurd H (by simp)
   rw [if_pos c23] at H
   have c23b0 : decide ((wrap64 ((wrap64 (t263 - 1)) * (wrap64 (a2 - 16)))) < (ji22)) = true := decide_eq_true c23
   clear c23
   replace H := bM H
   obtain ⟨t268, A240, H⟩ := H
   replace H : (some t268) = some r := H
   have A24 := Aside0.mk A240
   clear A240
   obtain rfl := Option.some.inj H
   go_wp2_with (first | ((with_reducible refine gate_callee (f := 15) rfl ?_); refine goesL_ (some 38) rfl rfl Tryd.func15 (by kernel_rfl) rfl #[.int .i64 (wrap64 ((Int.tmod (wrap64 (a0)) 1048576) + (Int.tmod (wrap64 (a1)) 1048576))), .int .i64 a2] rfl aO ?_; (with_reducible refine (chain_Pages.calls (wrap64 ((Int.tmod (wrap64 (a0)) 1048576) + (Int.tmod (wrap64 (a1)) 1048576))) a2 t265 _ A13.out).mono ?_); rintro e w25 ⟨rfl, hb⟩; refine ⟨_, rfl, ?_⟩; replace HB := as_ (below_step bA hb); (try clear hb); (try clear hb2); (try clear hk); (try clear hi)) | ((with_reducible refine gate_callee (f := 15) rfl ?_); refine goesL_ (some 42) rfl rfl Tryd.func15 (by kernel_rfl) rfl #[.int .i64 (wrap64 ((Int.tmod (wrap64 (a0)) 1048576) + 1)), .int .i64 a2] rfl aO ?_; (with_reducible refine (chain_Pages.calls (wrap64 ((Int.tmod (wrap64 (a0)) 1048576) + 1)) a2 t266 _ A14.out).mono ?_); rintro e w26 ⟨rfl, hb⟩; refine ⟨_, rfl, ?_⟩; replace HB := as_ (below_step bA hb); (try clear hb); (try clear hb2); (try clear hk); (try clear hi)) | (go_at_call 15; (with_reducible refine (chain_Pages.calls (wrap64 (-(Int.tmod (wrap64 (a0)) 1048576))) a2 t267 _ A19.out).mono ?_); rintro e w27 ⟨rfl, hb⟩; replace HB := as_ (below_step bA hb); (try clear hb); (try clear hb2); (try clear hk); (try clear hi)) | (go_at_call 12; (with_reducible refine (withylaw12_fixed.calls kj8  t268 _ A24.out).mono ?_); rintro e w28 ⟨rfl, hb⟩; replace HB := as_ (below_step bA hb); (try clear hb); (try clear hb2); (try clear hk); (try clear hi)))
   go_ret
   exact ⟨by first | rfl | (simp [errW_none, errW_some] <;> rfl) | (simp only [← hji17, ← hji22]; first | rfl | (simp [errW_none, errW_some] <;> rfl)) | (simp [*, errW_none, errW_some] <;> rfl), by repeat (first | (with_reducible first | exact HB.out | apply below_alloc | apply pw_below_drewN | apply below_drew1) | exact HB.out)⟩
end Go.Proofs.YtggfnlnonigkiaaDoor.P
