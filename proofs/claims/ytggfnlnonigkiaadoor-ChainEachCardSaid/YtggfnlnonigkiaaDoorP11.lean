/- What is proved here: for functions of the Go text, a Lean function each, and that the call comes to just what it answers. Conditions: as each contract names them. Written by wip/tools/myprint.py, a driver of the print of the kit. -/
import Derived.Test.YtggfnlnonigkiaaDoorP0
import Derived.Test.YtggfnlnonigkiaaDoorP2
import Derived.Test.YtggfnlnonigkiaaDoorP4
import Derived.Test.YtggfnlnonigkiaaDoorP9
import Derived.Test.YtggfnlnonigkiaaDoorP10
import Derived.Test.YtggfnlnonigkiaaDoorWAbbr
namespace Go.Proofs.YtggfnlnonigkiaaDoor.P
open Go.RowKit Go.Proofs.YtggfnlnonigkiaaDoorW.PrintWords Go.Proofs.YtggfnlnonigkiaaDoorW.PrintLast Go.Proofs.YtggfnlnonigkiaaDoorW.PrintMore Go.Proofs.YtggfnlnonigkiaaDoorW.Abbr
-- PACKED
attribute [local go_sem] max2_int min2_int max_two min_two max_three min_three max_four min_four Go.Proofs.YtggfnlnonigkiaaDoorLaws.str_leq Go.Proofs.YtggfnlnonigkiaaDoorLaws.str_gtr Go.Proofs.YtggfnlnonigkiaaDoorLaws.str_geq Go.Proofs.YtggfnlnonigkiaaDoorLaws.max2_str Go.Proofs.YtggfnlnonigkiaaDoorLaws.min2_str   -- for this text's walks alone
set_option linter.unusedVariables false
set_option linter.unusedSimpArgs false

/-! ### withylaw12_ChainEach: function 6 -/
def withylaw12_ChainEach.l0 : Nat → Int → List (S23) → Int → Option (Bool)
 | 0, _, _, _ => none
 | k + 1, x1, x7, x8 => if x8 < (x7.length : Int) then (if 0 ≤ x8 then ((chain_Encode.f k ((rd_T23 x7 x8).f0) ((rd_T23 x7 x8).f1) ((rd_T23 x7 x8).f2) x1).bind fun bt293 => (if bt293.2 = 3 then (if bt293.1.toList = ([] : List UInt8) then ((chain_May.f ((rd_T23 x7 x8).f0) ((rd_T23 x7 x8).f1) ((rd_T23 x7 x8).f2) x1).bind fun t296 => (if t296 = true then (none) else (withylaw12_ChainEach.l0 k x1 x7 (wrap64 (x8 + 1))))) else (none)) else (none))) else (none)) else ((withyref06_Size.f x1).bind fun t290 => (if t290 = true then ((withylaw12_fixed.f k).bind fun t291 => (some t291)) else (none)))
def withylaw12_ChainEach.f (k : Nat) (a0_0 : Int) (a0_1 : Int) (a0_2 : ByteArray) (a1 : Int) : Option (Bool) := (withylaw12_Cut.f a0_0 a0_1 a0_2).bind fun bt270 => ((chain_May.f bt270.1 bt270.2.1 bt270.2.2 a1).bind fun t273 => (if t273 = true then ((some (([(⟨bt270.1, bt270.2.1, bt270.2.2⟩ : S23), (⟨bt270.1, bt270.2.1, bt270.2.2⟩ : S23), (⟨bt270.1, bt270.2.1, bt270.2.2⟩ : S23), (⟨bt270.1, bt270.2.1, bt270.2.2⟩ : S23), (⟨bt270.1, bt270.2.1, bt270.2.2⟩ : S23), (⟨bt270.1, bt270.2.1, bt270.2.2⟩ : S23), (⟨bt270.1, bt270.2.1, bt270.2.2⟩ : S23)] : List (S23)) : List (S23))).bind fun y277 => (if 0 < (y277.length : Int) then ((some (y277.set (0 : Int).toNat (⟨0, (rd_T23 y277 0).f1, (rd_T23 y277 0).f2⟩ : S23) : List (S23))).bind fun y280 => (if 1 < (y277.length : Int) then ((some (y280.set (1 : Int).toNat (⟨4096, (rd_T23 y280 1).f1, (rd_T23 y280 1).f2⟩ : S23) : List (S23))).bind fun y281 => (if 2 < (y277.length : Int) then ((some (y281.set (2 : Int).toNat (⟨(rd_T23 y281 2).f0, (-1), (rd_T23 y281 2).f2⟩ : S23) : List (S23))).bind fun y282 => (if 3 < (y277.length : Int) then ((some (y282.set (3 : Int).toNat (⟨(rd_T23 y282 3).f0, bt270.1, (rd_T23 y282 3).f2⟩ : S23) : List (S23))).bind fun y283 => (if 4 < (y277.length : Int) then ((some (y283.set (4 : Int).toNat (⟨(rd_T23 y283 4).f0, (rd_T23 y283 4).f1, (⟨#[]⟩ : ByteArray)⟩ : S23) : List (S23))).bind fun y284 => ((withyref01_Repeat.f k 1 (wrap64 (a1 - 15))).bind fun t285 => (if 5 < (y277.length : Int) then ((some (y284.set (5 : Int).toNat (⟨(rd_T23 y284 5).f0, (rd_T23 y284 5).f1, t285⟩ : S23) : List (S23))).bind fun y286 => ((withyref01_Repeat.f k 1 (wrap64 (a1 - 17))).bind fun t287 => (if 6 < (y277.length : Int) then ((some (y286.set (6 : Int).toNat (⟨(rd_T23 y286 6).f0, (rd_T23 y286 6).f1, t287⟩ : S23) : List (S23))).bind fun y288 => (withylaw12_ChainEach.l0 k a1 (y288.set (6 : Int).toNat (⟨(rd_T23 y288 6).f0, wrap64 ((Int.tmod bt270.1 4095) + 1), (rd_T23 y288 6).f2⟩ : S23)) 0)) else (none)))) else (none)))) else (none))) else (none))) else (none))) else (none))) else (none))) else ((chain_Encode.f k bt270.1 bt270.2.1 bt270.2.2 a1).bind fun bt274 => (if bt274.2 = 0 then (none) else ((withylaw12_fixed.f k).bind fun t276 => (some t276))))))
theorem withylaw12_ChainEach.mono_l : ∀ k, (∀ y0 y1 y2, LeO (withylaw12_ChainEach.l0 k y0 y1 y2) (withylaw12_ChainEach.l0 (k + 1) y0 y1 y2))
 | 0 => fun _ _ _ r h => by simp [withylaw12_ChainEach.l0] at h
 | k + 1 => by
  have ih0 := withylaw12_ChainEach.mono_l k
  ·intro y0 y1 y2
   unfold withylaw12_ChainEach.l0
   repeat' first
   | (with_reducible exact ih0 _ _ _)
   | (with_reducible exact chain_Encode.mono _ _ _ _ _)
   | (with_reducible exact withylaw12_fixed.mono _)
   | (with_reducible exact withyref01_Repeat.mono _ _ _)
   | (with_reducible exact LeO.refl _)
   | (with_reducible exact LeO.none _)
   | (with_reducible refine LeO.ite ?_ ?_)
   | (with_reducible refine LeO.bind ?_ (fun _ => ?_))
   | exact ih0 _ _ _
   | exact chain_Encode.mono _ _ _ _ _
   | exact withylaw12_fixed.mono _
   | exact withyref01_Repeat.mono _ _ _
   | exact LeO.none _
   | refine LeO.ite ?_ ?_
   | refine LeO.bind ?_ (fun _ => ?_)
theorem withylaw12_ChainEach.mono : ∀ a0 a1 a2 a3 k, LeO (withylaw12_ChainEach.f k a0 a1 a2 a3) (withylaw12_ChainEach.f (k + 1) a0 a1 a2 a3) := by
 intro a0 a1 a2 a3 k
 have ih0 := withylaw12_ChainEach.mono_l k
 unfold withylaw12_ChainEach.f
 repeat' first
   | (with_reducible exact ih0 _ _ _)
   | (with_reducible exact chain_Encode.mono _ _ _ _ _)
   | (with_reducible exact withylaw12_fixed.mono _)
   | (with_reducible exact withyref01_Repeat.mono _ _ _)
   | (with_reducible exact LeO.refl _)
   | (with_reducible exact LeO.none _)
   | (with_reducible refine LeO.ite ?_ ?_)
   | (with_reducible refine LeO.bind ?_ (fun _ => ?_))
   | exact ih0 _ _ _
   | exact chain_Encode.mono _ _ _ _ _
   | exact withylaw12_fixed.mono _
   | exact withyref01_Repeat.mono _ _ _
   | exact LeO.none _
   | refine LeO.ite ?_ ?_
   | refine LeO.bind ?_ (fun _ => ?_)
set_option maxHeartbeats 8000000 in
set_option maxRecDepth 100000 in
theorem withylaw12_ChainEach.calls (k : Nat) (a0_0 : Int) (a0_1 : Int) (a0_2 : ByteArray) (a1 : Int) (r : Bool) (w : World) (h : withylaw12_ChainEach.f k a0_0 a0_1 a0_2 a1 = some r) :
  Calls Tryd.prog 6 #[.agg #[.int .i64 a0_0, .int .i64 a0_1, .string a0_2], .int .i64 a1] w fun e w' => e = .returned (.bool r) ∧ Below w.heap.size w w' := by
 have hu23 := Tryd.underlying23
 have HB := as_ (Below.refl w.heap.size w)
 have H : ((withylaw12_Cut.f a0_0 a0_1 a0_2).bind fun bt270 => ((chain_May.f bt270.1 bt270.2.1 bt270.2.2 a1).bind fun t273 => (if t273 = true then ((some (([(⟨bt270.1, bt270.2.1, bt270.2.2⟩ : S23), (⟨bt270.1, bt270.2.1, bt270.2.2⟩ : S23), (⟨bt270.1, bt270.2.1, bt270.2.2⟩ : S23), (⟨bt270.1, bt270.2.1, bt270.2.2⟩ : S23), (⟨bt270.1, bt270.2.1, bt270.2.2⟩ : S23), (⟨bt270.1, bt270.2.1, bt270.2.2⟩ : S23), (⟨bt270.1, bt270.2.1, bt270.2.2⟩ : S23)] : List (S23)) : List (S23))).bind fun y277 => (if 0 < (y277.length : Int) then ((some (y277.set (0 : Int).toNat (⟨0, (rd_T23 y277 0).f1, (rd_T23 y277 0).f2⟩ : S23) : List (S23))).bind fun y280 => (if 1 < (y277.length : Int) then ((some (y280.set (1 : Int).toNat (⟨4096, (rd_T23 y280 1).f1, (rd_T23 y280 1).f2⟩ : S23) : List (S23))).bind fun y281 => (if 2 < (y277.length : Int) then ((some (y281.set (2 : Int).toNat (⟨(rd_T23 y281 2).f0, (-1), (rd_T23 y281 2).f2⟩ : S23) : List (S23))).bind fun y282 => (if 3 < (y277.length : Int) then ((some (y282.set (3 : Int).toNat (⟨(rd_T23 y282 3).f0, bt270.1, (rd_T23 y282 3).f2⟩ : S23) : List (S23))).bind fun y283 => (if 4 < (y277.length : Int) then ((some (y283.set (4 : Int).toNat (⟨(rd_T23 y283 4).f0, (rd_T23 y283 4).f1, (⟨#[]⟩ : ByteArray)⟩ : S23) : List (S23))).bind fun y284 => ((withyref01_Repeat.f k 1 (wrap64 (a1 - 15))).bind fun t285 => (if 5 < (y277.length : Int) then ((some (y284.set (5 : Int).toNat (⟨(rd_T23 y284 5).f0, (rd_T23 y284 5).f1, t285⟩ : S23) : List (S23))).bind fun y286 => ((withyref01_Repeat.f k 1 (wrap64 (a1 - 17))).bind fun t287 => (if 6 < (y277.length : Int) then ((some (y286.set (6 : Int).toNat (⟨(rd_T23 y286 6).f0, (rd_T23 y286 6).f1, t287⟩ : S23) : List (S23))).bind fun y288 => (withylaw12_ChainEach.l0 k a1 (y288.set (6 : Int).toNat (⟨(rd_T23 y288 6).f0, wrap64 ((Int.tmod bt270.1 4095) + 1), (rd_T23 y288 6).f2⟩ : S23)) 0)) else (none)))) else (none)))) else (none))) else (none))) else (none))) else (none))) else (none))) else ((chain_Encode.f k bt270.1 bt270.2.1 bt270.2.2 a1).bind fun bt274 => (if bt274.2 = 0 then (none) else ((withylaw12_fixed.f k).bind fun t276 => (some t276))))))) = some r := h
 clear h
 replace H := bM H
 obtain ⟨⟨t270, t271, t272⟩, A30, H⟩ := H
 replace H : ((chain_May.f t270 t271 t272 a1).bind fun t273 => (if t273 = true then ((some (([(⟨t270, t271, t272⟩ : S23), (⟨t270, t271, t272⟩ : S23), (⟨t270, t271, t272⟩ : S23), (⟨t270, t271, t272⟩ : S23), (⟨t270, t271, t272⟩ : S23), (⟨t270, t271, t272⟩ : S23), (⟨t270, t271, t272⟩ : S23)] : List (S23)) : List (S23))).bind fun y277 => (if 0 < (y277.length : Int) then ((some (y277.set (0 : Int).toNat (⟨0, (rd_T23 y277 0).f1, (rd_T23 y277 0).f2⟩ : S23) : List (S23))).bind fun y280 => (if 1 < (y277.length : Int) then ((some (y280.set (1 : Int).toNat (⟨4096, (rd_T23 y280 1).f1, (rd_T23 y280 1).f2⟩ : S23) : List (S23))).bind fun y281 => (if 2 < (y277.length : Int) then ((some (y281.set (2 : Int).toNat (⟨(rd_T23 y281 2).f0, (-1), (rd_T23 y281 2).f2⟩ : S23) : List (S23))).bind fun y282 => (if 3 < (y277.length : Int) then ((some (y282.set (3 : Int).toNat (⟨(rd_T23 y282 3).f0, t270, (rd_T23 y282 3).f2⟩ : S23) : List (S23))).bind fun y283 => (if 4 < (y277.length : Int) then ((some (y283.set (4 : Int).toNat (⟨(rd_T23 y283 4).f0, (rd_T23 y283 4).f1, (⟨#[]⟩ : ByteArray)⟩ : S23) : List (S23))).bind fun y284 => ((withyref01_Repeat.f k 1 (wrap64 (a1 - 15))).bind fun t285 => (if 5 < (y277.length : Int) then ((some (y284.set (5 : Int).toNat (⟨(rd_T23 y284 5).f0, (rd_T23 y284 5).f1, t285⟩ : S23) : List (S23))).bind fun y286 => ((withyref01_Repeat.f k 1 (wrap64 (a1 - 17))).bind fun t287 => (if 6 < (y277.length : Int) then ((some (y286.set (6 : Int).toNat (⟨(rd_T23 y286 6).f0, (rd_T23 y286 6).f1, t287⟩ : S23) : List (S23))).bind fun y288 => (withylaw12_ChainEach.l0 k a1 (y288.set (6 : Int).toNat (⟨(rd_T23 y288 6).f0, wrap64 ((Int.tmod t270 4095) + 1), (rd_T23 y288 6).f2⟩ : S23)) 0)) else (none)))) else (none)))) else (none))) else (none))) else (none))) else (none))) else (none))) else ((chain_Encode.f k t270 t271 t272 a1).bind fun bt274 => (if bt274.2 = 0 then (none) else ((withylaw12_fixed.f k).bind fun t276 => (some t276)))))) = some r := H
 have A3 := Aside0.mk A30
 clear A30
 replace H := bM H
 obtain ⟨t273, A40, H⟩ := H
 replace H : (if t273 = true then ((some (([(⟨t270, t271, t272⟩ : S23), (⟨t270, t271, t272⟩ : S23), (⟨t270, t271, t272⟩ : S23), (⟨t270, t271, t272⟩ : S23), (⟨t270, t271, t272⟩ : S23), (⟨t270, t271, t272⟩ : S23), (⟨t270, t271, t272⟩ : S23)] : List (S23)) : List (S23))).bind fun y277 => (if 0 < (y277.length : Int) then ((some (y277.set (0 : Int).toNat (⟨0, (rd_T23 y277 0).f1, (rd_T23 y277 0).f2⟩ : S23) : List (S23))).bind fun y280 => (if 1 < (y277.length : Int) then ((some (y280.set (1 : Int).toNat (⟨4096, (rd_T23 y280 1).f1, (rd_T23 y280 1).f2⟩ : S23) : List (S23))).bind fun y281 => (if 2 < (y277.length : Int) then ((some (y281.set (2 : Int).toNat (⟨(rd_T23 y281 2).f0, (-1), (rd_T23 y281 2).f2⟩ : S23) : List (S23))).bind fun y282 => (if 3 < (y277.length : Int) then ((some (y282.set (3 : Int).toNat (⟨(rd_T23 y282 3).f0, t270, (rd_T23 y282 3).f2⟩ : S23) : List (S23))).bind fun y283 => (if 4 < (y277.length : Int) then ((some (y283.set (4 : Int).toNat (⟨(rd_T23 y283 4).f0, (rd_T23 y283 4).f1, (⟨#[]⟩ : ByteArray)⟩ : S23) : List (S23))).bind fun y284 => ((withyref01_Repeat.f k 1 (wrap64 (a1 - 15))).bind fun t285 => (if 5 < (y277.length : Int) then ((some (y284.set (5 : Int).toNat (⟨(rd_T23 y284 5).f0, (rd_T23 y284 5).f1, t285⟩ : S23) : List (S23))).bind fun y286 => ((withyref01_Repeat.f k 1 (wrap64 (a1 - 17))).bind fun t287 => (if 6 < (y277.length : Int) then ((some (y286.set (6 : Int).toNat (⟨(rd_T23 y286 6).f0, (rd_T23 y286 6).f1, t287⟩ : S23) : List (S23))).bind fun y288 => (withylaw12_ChainEach.l0 k a1 (y288.set (6 : Int).toNat (⟨(rd_T23 y288 6).f0, wrap64 ((Int.tmod t270 4095) + 1), (rd_T23 y288 6).f2⟩ : S23)) 0)) else (none)))) else (none)))) else (none))) else (none))) else (none))) else (none))) else (none))) else ((chain_Encode.f k t270 t271 t272 a1).bind fun bt274 => (if bt274.2 = 0 then (none) else ((withylaw12_fixed.f k).bind fun t276 => (some t276))))) = some r := H
 have A4 := Aside0.mk A40
 clear A40
 by_cases c5 : t273 = true
 rotate_left
 ·replace c5 := Bool.eq_false_iff.mpr c5
  subst c5
  have H1 : ((chain_Encode.f k t270 t271 t272 a1).bind fun bt274 => (if bt274.2 = 0 then (none) else ((withylaw12_fixed.f k).bind fun t276 => (some t276)))) = some r := by rw [if_neg (show ¬ (false = true) by decide)] at H; exact H
  clear H
  have H := H1
  clear H1
  replace H := bM H
  obtain ⟨⟨t274, t275⟩, A640, H⟩ := H
  replace H : (if t275 = 0 then (none) else ((withylaw12_fixed.f k).bind fun t276 => (some t276))) = some r := H
  have A64 := Aside0.mk A640
  clear A640
  by_cases c65 : t275 = 0
  ·rw [if_pos c65] at H
   exact absurd H (by simp)
  rw [if_neg c65] at H
  have c65b0 : (t275 == 0) = false := beq_eq_false_iff_ne.mpr c65
  have c65b1 : (t275 != 0) = true := bne_iff_ne.mpr c65
  replace H := bM H
  obtain ⟨t276, A660, H⟩ := H
  replace H : (some t276) = some r := H
  have A66 := Aside0.mk A660
  clear A660
  obtain rfl := Option.some.inj H
  go_enter Tryd.func6, Tryd.ntmps6
  go_wp2_with (first | ((with_reducible refine gate_dst (N := 2) rfl ?_); refine box_event (by rfl) (N := 2) (by rfl) (cs := #[.int .i64 a0_0, .int .i64 a0_1, .string a0_2]) (t := 23) gS ?_; intro gb269 hg w67 hbox hb; have BK269 := as_ (hbox); have GW269 := gw hg bA; have GE269 := gw hg bA; replace HB := as_ (below_step bA hb); clear hb hbox hg; obtain ⟨hcz68_0, hcz68_1, hcz68_2⟩ := zc3 BK269; obtain ⟨hfz68_0, hfz68_1, hfz68_2⟩ := zf3 BK269) | ((with_reducible refine gate_callee (f := 8) rfl ?_); refine goesL_ (some 12) rfl rfl Tryd.func8 (by kernel_rfl) rfl #[.agg #[.int .i64 a0_0, .int .i64 a0_1, .string a0_2]] rfl aO ?_; (with_reducible refine (withylaw12_Cut.calls a0_0 a0_1 a0_2 t270 t271 t272 _ A3.out).mono ?_); rintro e w69 ⟨rfl, hb⟩; refine ⟨_, rfl, ?_⟩; replace BK269 := bb BK269 hb; replace HB := as_ (below_step bA hb); (try clear hb); (try clear hb2); (try clear hk); (try clear hi); obtain ⟨hcz70_0, hcz70_1, hcz70_2⟩ := zc3 BK269; obtain ⟨hfz70_0, hfz70_1, hfz70_2⟩ := zf3 BK269) | ((with_reducible refine gate_callee (f := 10) rfl ?_); refine goesL_ (some 15) rfl rfl Tryd.func10 (by kernel_rfl) rfl #[.agg #[.int .i64 t270, .int .i64 t271, .string t272], .int .i64 a1] rfl aO ?_; (with_reducible refine (chain_May.calls t270 t271 t272 a1 false _ A4.out).mono ?_); rintro e w71 ⟨rfl, hb⟩; refine ⟨_, rfl, ?_⟩; replace BK269 := as_ (blk_below (g := gb269) (o := .cells #[.int .i64 t270, .int .i64 t271, .string t272] 23 (0, 0)) (by refine bx ?_; refine blk_put (cs := #[.int .i64 t270, .int .i64 t271, .string a0_2]) ?_ 2 _ rfl; refine bx ?_; refine blk_put (cs := #[.int .i64 t270, .int .i64 a0_1, .string a0_2]) ?_ 1 _ rfl; refine bx ?_; refine blk_put (cs := #[.int .i64 a0_0, .int .i64 a0_1, .string a0_2]) ?_ 0 _ rfl; refine bx ?_; exact BK269.out) hb); replace HB := as_ (below_step bA hb); (try clear hb); (try clear hb2); (try clear hk); (try clear hi); obtain ⟨hcz72_0, hcz72_1, hcz72_2⟩ := zc3 BK269; obtain ⟨hfz72_0, hfz72_1, hfz72_2⟩ := zf3 BK269) | ((with_reducible refine gate_callee (f := 9) rfl ?_); refine goesL_ (some 20) rfl rfl Tryd.func9 (by kernel_rfl) rfl #[.agg #[.int .i64 t270, .int .i64 t271, .string t272], .int .i64 a1] rfl aO ?_; (with_reducible refine (chain_Encode.calls k t270 t271 t272 a1 t274 t275 _ A64.out).mono ?_); rintro e w73 ⟨rfl, hb⟩; refine ⟨_, rfl, ?_⟩; replace BK269 := bb BK269 hb; replace HB := as_ (below_step bA hb); (try clear hb); (try clear hb2); (try clear hk); (try clear hi)) | (go_at_call 12; (with_reducible refine (withylaw12_fixed.calls k  t276 _ A66.out).mono ?_); rintro e w74 ⟨rfl, hb⟩; replace BK269 := bb BK269 hb; replace HB := as_ (below_step bA hb); (try clear hb); (try clear hb2); (try clear hk); (try clear hi)))
  go_ret
  exact ⟨eW, by repeat (first | (with_reducible first | exact HB.out | apply below_alloc | apply pw_below_drewN | apply below_drew1 | refine below_set ?_ GE269.out) | exact HB.out)⟩
 
 subst c5
 have H1 : ((some (([(⟨t270, t271, t272⟩ : S23), (⟨t270, t271, t272⟩ : S23), (⟨t270, t271, t272⟩ : S23), (⟨t270, t271, t272⟩ : S23), (⟨t270, t271, t272⟩ : S23), (⟨t270, t271, t272⟩ : S23), (⟨t270, t271, t272⟩ : S23)] : List (S23)) : List (S23))).bind fun y277 => (if 0 < (y277.length : Int) then ((some (y277.set (0 : Int).toNat (⟨0, (rd_T23 y277 0).f1, (rd_T23 y277 0).f2⟩ : S23) : List (S23))).bind fun y280 => (if 1 < (y277.length : Int) then ((some (y280.set (1 : Int).toNat (⟨4096, (rd_T23 y280 1).f1, (rd_T23 y280 1).f2⟩ : S23) : List (S23))).bind fun y281 => (if 2 < (y277.length : Int) then ((some (y281.set (2 : Int).toNat (⟨(rd_T23 y281 2).f0, (-1), (rd_T23 y281 2).f2⟩ : S23) : List (S23))).bind fun y282 => (if 3 < (y277.length : Int) then ((some (y282.set (3 : Int).toNat (⟨(rd_T23 y282 3).f0, t270, (rd_T23 y282 3).f2⟩ : S23) : List (S23))).bind fun y283 => (if 4 < (y277.length : Int) then ((some (y283.set (4 : Int).toNat (⟨(rd_T23 y283 4).f0, (rd_T23 y283 4).f1, (⟨#[]⟩ : ByteArray)⟩ : S23) : List (S23))).bind fun y284 => ((withyref01_Repeat.f k 1 (wrap64 (a1 - 15))).bind fun t285 => (if 5 < (y277.length : Int) then ((some (y284.set (5 : Int).toNat (⟨(rd_T23 y284 5).f0, (rd_T23 y284 5).f1, t285⟩ : S23) : List (S23))).bind fun y286 => ((withyref01_Repeat.f k 1 (wrap64 (a1 - 17))).bind fun t287 => (if 6 < (y277.length : Int) then ((some (y286.set (6 : Int).toNat (⟨(rd_T23 y286 6).f0, (rd_T23 y286 6).f1, t287⟩ : S23) : List (S23))).bind fun y288 => (withylaw12_ChainEach.l0 k a1 (y288.set (6 : Int).toNat (⟨(rd_T23 y288 6).f0, wrap64 ((Int.tmod t270 4095) + 1), (rd_T23 y288 6).f2⟩ : S23)) 0)) else (none)))) else (none)))) else (none))) else (none))) else (none))) else (none))) else (none))) = some r := by rw [if_pos rfl] at H; exact H
 clear H
 have H := H1
 clear H1
 obtain ⟨y277, hy277⟩ : ∃ y_ : List (S23), y_ = (([(⟨t270, t271, t272⟩ : S23), (⟨t270, t271, t272⟩ : S23), (⟨t270, t271, t272⟩ : S23), (⟨t270, t271, t272⟩ : S23), (⟨t270, t271, t272⟩ : S23), (⟨t270, t271, t272⟩ : S23), (⟨t270, t271, t272⟩ : S23)] : List (S23))) := ⟨_, rfl⟩
 replace H : (if 0 < (y277.length : Int) then ((some (y277.set (0 : Int).toNat (⟨0, (rd_T23 y277 0).f1, (rd_T23 y277 0).f2⟩ : S23) : List (S23))).bind fun y280 => (if 1 < (y277.length : Int) then ((some (y280.set (1 : Int).toNat (⟨4096, (rd_T23 y280 1).f1, (rd_T23 y280 1).f2⟩ : S23) : List (S23))).bind fun y281 => (if 2 < (y277.length : Int) then ((some (y281.set (2 : Int).toNat (⟨(rd_T23 y281 2).f0, (-1), (rd_T23 y281 2).f2⟩ : S23) : List (S23))).bind fun y282 => (if 3 < (y277.length : Int) then ((some (y282.set (3 : Int).toNat (⟨(rd_T23 y282 3).f0, t270, (rd_T23 y282 3).f2⟩ : S23) : List (S23))).bind fun y283 => (if 4 < (y277.length : Int) then ((some (y283.set (4 : Int).toNat (⟨(rd_T23 y283 4).f0, (rd_T23 y283 4).f1, (⟨#[]⟩ : ByteArray)⟩ : S23) : List (S23))).bind fun y284 => ((withyref01_Repeat.f k 1 (wrap64 (a1 - 15))).bind fun t285 => (if 5 < (y277.length : Int) then ((some (y284.set (5 : Int).toNat (⟨(rd_T23 y284 5).f0, (rd_T23 y284 5).f1, t285⟩ : S23) : List (S23))).bind fun y286 => ((withyref01_Repeat.f k 1 (wrap64 (a1 - 17))).bind fun t287 => (if 6 < (y277.length : Int) then ((some (y286.set (6 : Int).toNat (⟨(rd_T23 y286 6).f0, (rd_T23 y286 6).f1, t287⟩ : S23) : List (S23))).bind fun y288 => (withylaw12_ChainEach.l0 k a1 (y288.set (6 : Int).toNat (⟨(rd_T23 y288 6).f0, wrap64 ((Int.tmod t270 4095) + 1), (rd_T23 y288 6).f2⟩ : S23)) 0)) else (none)))) else (none)))) else (none))) else (none))) else (none))) else (none))) else (none)) = some r := by first | (rw [hy277]; with_reducible exact H) | (have H2_ := (Option.bind_some _ _).symm.trans H; rw [hy277]; with_reducible exact H2_) | (have H2_ := (Option.bind_some _ _).symm.trans H; with_reducible exact H2_) | with_reducible exact H | (rw [hy277]; exact H) | exact H
 have Ny277 := Aside0.mk hy277
 clear hy277
 by_cases c6 : 0 < (y277.length : Int)
 rotate_left
 ·rw [if_neg c6] at H
  exact absurd H (by simp)
 rw [if_pos c6] at H
 have c6b0 : decide (0 < (y277.length : Int)) = true := decide_eq_true c6
 have c6b1 : decide (0 < y277.length) = true := decide_eq_true (by omega)
 clear c6
 obtain ⟨y280, hy280⟩ : ∃ y_ : List (S23), y_ = (y277.set (0 : Int).toNat (⟨0, (rd_T23 y277 0).f1, (rd_T23 y277 0).f2⟩ : S23)) := ⟨_, rfl⟩
 replace H : (if 1 < (y277.length : Int) then ((some (y280.set (1 : Int).toNat (⟨4096, (rd_T23 y280 1).f1, (rd_T23 y280 1).f2⟩ : S23) : List (S23))).bind fun y281 => (if 2 < (y277.length : Int) then ((some (y281.set (2 : Int).toNat (⟨(rd_T23 y281 2).f0, (-1), (rd_T23 y281 2).f2⟩ : S23) : List (S23))).bind fun y282 => (if 3 < (y277.length : Int) then ((some (y282.set (3 : Int).toNat (⟨(rd_T23 y282 3).f0, t270, (rd_T23 y282 3).f2⟩ : S23) : List (S23))).bind fun y283 => (if 4 < (y277.length : Int) then ((some (y283.set (4 : Int).toNat (⟨(rd_T23 y283 4).f0, (rd_T23 y283 4).f1, (⟨#[]⟩ : ByteArray)⟩ : S23) : List (S23))).bind fun y284 => ((withyref01_Repeat.f k 1 (wrap64 (a1 - 15))).bind fun t285 => (if 5 < (y277.length : Int) then ((some (y284.set (5 : Int).toNat (⟨(rd_T23 y284 5).f0, (rd_T23 y284 5).f1, t285⟩ : S23) : List (S23))).bind fun y286 => ((withyref01_Repeat.f k 1 (wrap64 (a1 - 17))).bind fun t287 => (if 6 < (y277.length : Int) then ((some (y286.set (6 : Int).toNat (⟨(rd_T23 y286 6).f0, (rd_T23 y286 6).f1, t287⟩ : S23) : List (S23))).bind fun y288 => (withylaw12_ChainEach.l0 k a1 (y288.set (6 : Int).toNat (⟨(rd_T23 y288 6).f0, wrap64 ((Int.tmod t270 4095) + 1), (rd_T23 y288 6).f2⟩ : S23)) 0)) else (none)))) else (none)))) else (none))) else (none))) else (none))) else (none)) = some r := by first | (rw [hy280]; with_reducible exact H) | (have H2_ := (Option.bind_some _ _).symm.trans H; rw [hy280]; with_reducible exact H2_) | (have H2_ := (Option.bind_some _ _).symm.trans H; with_reducible exact H2_) | with_reducible exact H | (rw [hy280]; exact H) | exact H
 have Ny280 := Aside0.mk hy280
 clear hy280
 by_cases c8 : 1 < (y277.length : Int)
 rotate_left
 ·rw [if_neg c8] at H
  exact absurd H (by simp)
 rw [if_pos c8] at H
 have c8b0 : decide (1 < (y277.length : Int)) = true := decide_eq_true c8
 have c8b1 : decide (1 < y277.length) = true := decide_eq_true (by omega)
 clear c8
 obtain ⟨y281, hy281⟩ : ∃ y_ : List (S23), y_ = (y280.set (1 : Int).toNat (⟨4096, (rd_T23 y280 1).f1, (rd_T23 y280 1).f2⟩ : S23)) := ⟨_, rfl⟩
 replace H : (if 2 < (y277.length : Int) then ((some (y281.set (2 : Int).toNat (⟨(rd_T23 y281 2).f0, (-1), (rd_T23 y281 2).f2⟩ : S23) : List (S23))).bind fun y282 => (if 3 < (y277.length : Int) then ((some (y282.set (3 : Int).toNat (⟨(rd_T23 y282 3).f0, t270, (rd_T23 y282 3).f2⟩ : S23) : List (S23))).bind fun y283 => (if 4 < (y277.length : Int) then ((some (y283.set (4 : Int).toNat (⟨(rd_T23 y283 4).f0, (rd_T23 y283 4).f1, (⟨#[]⟩ : ByteArray)⟩ : S23) : List (S23))).bind fun y284 => ((withyref01_Repeat.f k 1 (wrap64 (a1 - 15))).bind fun t285 => (if 5 < (y277.length : Int) then ((some (y284.set (5 : Int).toNat (⟨(rd_T23 y284 5).f0, (rd_T23 y284 5).f1, t285⟩ : S23) : List (S23))).bind fun y286 => ((withyref01_Repeat.f k 1 (wrap64 (a1 - 17))).bind fun t287 => (if 6 < (y277.length : Int) then ((some (y286.set (6 : Int).toNat (⟨(rd_T23 y286 6).f0, (rd_T23 y286 6).f1, t287⟩ : S23) : List (S23))).bind fun y288 => (withylaw12_ChainEach.l0 k a1 (y288.set (6 : Int).toNat (⟨(rd_T23 y288 6).f0, wrap64 ((Int.tmod t270 4095) + 1), (rd_T23 y288 6).f2⟩ : S23)) 0)) else (none)))) else (none)))) else (none))) else (none))) else (none)) = some r := by first | (rw [hy281]; with_reducible exact H) | (have H2_ := (Option.bind_some _ _).symm.trans H; rw [hy281]; with_reducible exact H2_) | (have H2_ := (Option.bind_some _ _).symm.trans H; with_reducible exact H2_) | with_reducible exact H | (rw [hy281]; exact H) | exact H
 have Ny281 := Aside0.mk hy281
 clear hy281
 by_cases c10 : 2 < (y277.length : Int)
 rotate_left
 ·rw [if_neg c10] at H
  exact absurd H (by simp)
 rw [if_pos c10] at H
 have c10b0 : decide (2 < (y277.length : Int)) = true := decide_eq_true c10
 have c10b1 : decide (2 < y277.length) = true := decide_eq_true (by omega)
 clear c10
 obtain ⟨y282, hy282⟩ : ∃ y_ : List (S23), y_ = (y281.set (2 : Int).toNat (⟨(rd_T23 y281 2).f0, (-1), (rd_T23 y281 2).f2⟩ : S23)) := ⟨_, rfl⟩
 replace H : (if 3 < (y277.length : Int) then ((some (y282.set (3 : Int).toNat (⟨(rd_T23 y282 3).f0, t270, (rd_T23 y282 3).f2⟩ : S23) : List (S23))).bind fun y283 => (if 4 < (y277.length : Int) then ((some (y283.set (4 : Int).toNat (⟨(rd_T23 y283 4).f0, (rd_T23 y283 4).f1, (⟨#[]⟩ : ByteArray)⟩ : S23) : List (S23))).bind fun y284 => ((withyref01_Repeat.f k 1 (wrap64 (a1 - 15))).bind fun t285 => (if 5 < (y277.length : Int) then ((some (y284.set (5 : Int).toNat (⟨(rd_T23 y284 5).f0, (rd_T23 y284 5).f1, t285⟩ : S23) : List (S23))).bind fun y286 => ((withyref01_Repeat.f k 1 (wrap64 (a1 - 17))).bind fun t287 => (if 6 < (y277.length : Int) then ((some (y286.set (6 : Int).toNat (⟨(rd_T23 y286 6).f0, (rd_T23 y286 6).f1, t287⟩ : S23) : List (S23))).bind fun y288 => (withylaw12_ChainEach.l0 k a1 (y288.set (6 : Int).toNat (⟨(rd_T23 y288 6).f0, wrap64 ((Int.tmod t270 4095) + 1), (rd_T23 y288 6).f2⟩ : S23)) 0)) else (none)))) else (none)))) else (none))) else (none)) = some r := by first | (rw [hy282]; with_reducible exact H) | (have H2_ := (Option.bind_some _ _).symm.trans H; rw [hy282]; with_reducible exact H2_) | (have H2_ := (Option.bind_some _ _).symm.trans H; with_reducible exact H2_) | with_reducible exact H | (rw [hy282]; exact H) | exact H
 have Ny282 := Aside0.mk hy282
 clear hy282
 by_cases c12 : 3 < (y277.length : Int)
 rotate_left
 ·rw [if_neg c12] at H
  exact absurd H (by simp)
 rw [if_pos c12] at H
 have c12b0 : decide (3 < (y277.length : Int)) = true := decide_eq_true c12
 have c12b1 : decide (3 < y277.length) = true := decide_eq_true (by omega)
 clear c12
 obtain ⟨y283, hy283⟩ : ∃ y_ : List (S23), y_ = (y282.set (3 : Int).toNat (⟨(rd_T23 y282 3).f0, t270, (rd_T23 y282 3).f2⟩ : S23)) := ⟨_, rfl⟩
 replace H : (if 4 < (y277.length : Int) then ((some (y283.set (4 : Int).toNat (⟨(rd_T23 y283 4).f0, (rd_T23 y283 4).f1, (⟨#[]⟩ : ByteArray)⟩ : S23) : List (S23))).bind fun y284 => ((withyref01_Repeat.f k 1 (wrap64 (a1 - 15))).bind fun t285 => (if 5 < (y277.length : Int) then ((some (y284.set (5 : Int).toNat (⟨(rd_T23 y284 5).f0, (rd_T23 y284 5).f1, t285⟩ : S23) : List (S23))).bind fun y286 => ((withyref01_Repeat.f k 1 (wrap64 (a1 - 17))).bind fun t287 => (if 6 < (y277.length : Int) then ((some (y286.set (6 : Int).toNat (⟨(rd_T23 y286 6).f0, (rd_T23 y286 6).f1, t287⟩ : S23) : List (S23))).bind fun y288 => (withylaw12_ChainEach.l0 k a1 (y288.set (6 : Int).toNat (⟨(rd_T23 y288 6).f0, wrap64 ((Int.tmod t270 4095) + 1), (rd_T23 y288 6).f2⟩ : S23)) 0)) else (none)))) else (none)))) else (none)) = some r := by first | (rw [hy283]; with_reducible exact H) | (have H2_ := (Option.bind_some _ _).symm.trans H; rw [hy283]; with_reducible exact H2_) | (have H2_ := (Option.bind_some _ _).symm.trans H; with_reducible exact H2_) | with_reducible exact H | (rw [hy283]; exact H) | exact H
 have Ny283 := Aside0.mk hy283
 clear hy283
 by_cases c14 : 4 < (y277.length : Int)
 rotate_left
 ·rw [if_neg c14] at H
  exact absurd H (by simp)
 rw [if_pos c14] at H
 have c14b0 : decide (4 < (y277.length : Int)) = true := decide_eq_true c14
 have c14b1 : decide (4 < y277.length) = true := decide_eq_true (by omega)
 clear c14
 obtain ⟨y284, hy284⟩ : ∃ y_ : List (S23), y_ = (y283.set (4 : Int).toNat (⟨(rd_T23 y283 4).f0, (rd_T23 y283 4).f1, (⟨#[]⟩ : ByteArray)⟩ : S23)) := ⟨_, rfl⟩
 replace H : ((withyref01_Repeat.f k 1 (wrap64 (a1 - 15))).bind fun t285 => (if 5 < (y277.length : Int) then ((some (y284.set (5 : Int).toNat (⟨(rd_T23 y284 5).f0, (rd_T23 y284 5).f1, t285⟩ : S23) : List (S23))).bind fun y286 => ((withyref01_Repeat.f k 1 (wrap64 (a1 - 17))).bind fun t287 => (if 6 < (y277.length : Int) then ((some (y286.set (6 : Int).toNat (⟨(rd_T23 y286 6).f0, (rd_T23 y286 6).f1, t287⟩ : S23) : List (S23))).bind fun y288 => (withylaw12_ChainEach.l0 k a1 (y288.set (6 : Int).toNat (⟨(rd_T23 y288 6).f0, wrap64 ((Int.tmod t270 4095) + 1), (rd_T23 y288 6).f2⟩ : S23)) 0)) else (none)))) else (none))) = some r := by first | (rw [hy284]; with_reducible exact H) | (have H2_ := (Option.bind_some _ _).symm.trans H; rw [hy284]; with_reducible exact H2_) | (have H2_ := (Option.bind_some _ _).symm.trans H; with_reducible exact H2_) | with_reducible exact H | (rw [hy284]; exact H) | exact H
 have Ny284 := Aside0.mk hy284
 clear hy284
 replace H := bM H
 obtain ⟨t285, A160, H⟩ := H
 replace H : (if 5 < (y277.length : Int) then ((some (y284.set (5 : Int).toNat (⟨(rd_T23 y284 5).f0, (rd_T23 y284 5).f1, t285⟩ : S23) : List (S23))).bind fun y286 => ((withyref01_Repeat.f k 1 (wrap64 (a1 - 17))).bind fun t287 => (if 6 < (y277.length : Int) then ((some (y286.set (6 : Int).toNat (⟨(rd_T23 y286 6).f0, (rd_T23 y286 6).f1, t287⟩ : S23) : List (S23))).bind fun y288 => (withylaw12_ChainEach.l0 k a1 (y288.set (6 : Int).toNat (⟨(rd_T23 y288 6).f0, wrap64 ((Int.tmod t270 4095) + 1), (rd_T23 y288 6).f2⟩ : S23)) 0)) else (none)))) else (none)) = some r := H
 have A16 := Aside0.mk A160
 clear A160
 by_cases c17 : 5 < (y277.length : Int)
 rotate_left
 ·rw [if_neg c17] at H
  exact absurd H (by simp)
 rw [if_pos c17] at H
 have c17b0 : decide (5 < (y277.length : Int)) = true := decide_eq_true c17
 have c17b1 : decide (5 < y277.length) = true := decide_eq_true (by omega)
 clear c17
 obtain ⟨y286, hy286⟩ : ∃ y_ : List (S23), y_ = (y284.set (5 : Int).toNat (⟨(rd_T23 y284 5).f0, (rd_T23 y284 5).f1, t285⟩ : S23)) := ⟨_, rfl⟩
 replace H : ((withyref01_Repeat.f k 1 (wrap64 (a1 - 17))).bind fun t287 => (if 6 < (y277.length : Int) then ((some (y286.set (6 : Int).toNat (⟨(rd_T23 y286 6).f0, (rd_T23 y286 6).f1, t287⟩ : S23) : List (S23))).bind fun y288 => (withylaw12_ChainEach.l0 k a1 (y288.set (6 : Int).toNat (⟨(rd_T23 y288 6).f0, wrap64 ((Int.tmod t270 4095) + 1), (rd_T23 y288 6).f2⟩ : S23)) 0)) else (none))) = some r := by first | (rw [hy286]; with_reducible exact H) | (have H2_ := (Option.bind_some _ _).symm.trans H; rw [hy286]; with_reducible exact H2_) | (have H2_ := (Option.bind_some _ _).symm.trans H; with_reducible exact H2_) | with_reducible exact H | (rw [hy286]; exact H) | exact H
 have Ny286 := Aside0.mk hy286
 clear hy286
 replace H := bM H
 obtain ⟨t287, A190, H⟩ := H
 replace H : (if 6 < (y277.length : Int) then ((some (y286.set (6 : Int).toNat (⟨(rd_T23 y286 6).f0, (rd_T23 y286 6).f1, t287⟩ : S23) : List (S23))).bind fun y288 => (withylaw12_ChainEach.l0 k a1 (y288.set (6 : Int).toNat (⟨(rd_T23 y288 6).f0, wrap64 ((Int.tmod t270 4095) + 1), (rd_T23 y288 6).f2⟩ : S23)) 0)) else (none)) = some r := H
 have A19 := Aside0.mk A190
 clear A190
 by_cases c20 : 6 < (y277.length : Int)
 rotate_left
 ·rw [if_neg c20] at H
  exact absurd H (by simp)
 rw [if_pos c20] at H
 have c20b0 : decide (6 < (y277.length : Int)) = true := decide_eq_true c20
 have c20b1 : decide (6 < y277.length) = true := decide_eq_true (by omega)
 clear c20
 obtain ⟨y288, hy288⟩ : ∃ y_ : List (S23), y_ = (y286.set (6 : Int).toNat (⟨(rd_T23 y286 6).f0, (rd_T23 y286 6).f1, t287⟩ : S23)) := ⟨_, rfl⟩
 replace H : (withylaw12_ChainEach.l0 k a1 (y288.set (6 : Int).toNat (⟨(rd_T23 y288 6).f0, wrap64 ((Int.tmod t270 4095) + 1), (rd_T23 y288 6).f2⟩ : S23)) 0) = some r := by first | (rw [hy288]; with_reducible exact H) | (have H2_ := (Option.bind_some _ _).symm.trans H; rw [hy288]; with_reducible exact H2_) | (have H2_ := (Option.bind_some _ _).symm.trans H; with_reducible exact H2_) | with_reducible exact H | (rw [hy288]; exact H) | exact H
 have Ny288 := Aside0.mk hy288
 clear hy288
 obtain ⟨y289, hy289⟩ : ∃ y_ : List (S23), y_ = (y288.set (6 : Int).toNat (⟨(rd_T23 y288 6).f0, wrap64 ((Int.tmod t270 4095) + 1), (rd_T23 y288 6).f2⟩ : S23)) := ⟨_, rfl⟩
 replace H : (withylaw12_ChainEach.l0 k a1 y289 0) = some r := by first | (rw [hy289]; with_reducible exact H) | (have H2_ := (Option.bind_some _ _).symm.trans H; rw [hy289]; with_reducible exact H2_) | (have H2_ := (Option.bind_some _ _).symm.trans H; with_reducible exact H2_) | with_reducible exact H | (rw [hy289]; exact H) | exact H
 have Ny289 := Aside0.mk hy289
 clear hy289
 have H' := Aside0.mk H
 clear H
 go_enter Tryd.func6, Tryd.ntmps6
 go_wp2_with (first | ((with_reducible refine gate_dst (N := 2) rfl ?_); refine box_event (by rfl) (N := 2) (by rfl) (cs := #[.int .i64 a0_0, .int .i64 a0_1, .string a0_2]) (t := 23) gS ?_; intro gb269 hg w23 hbox hb; have BK269 := as_ (hbox); have GW269 := gw hg bA; have GE269 := gw hg bA; replace HB := as_ (below_step bA hb); clear hb hbox hg; obtain ⟨hcz24_0, hcz24_1, hcz24_2⟩ := zc3 BK269; obtain ⟨hfz24_0, hfz24_1, hfz24_2⟩ := zf3 BK269) | ((with_reducible refine gate_callee (f := 8) rfl ?_); refine goesL_ (some 12) rfl rfl Tryd.func8 (by kernel_rfl) rfl #[.agg #[.int .i64 a0_0, .int .i64 a0_1, .string a0_2]] rfl aO ?_; (with_reducible refine (withylaw12_Cut.calls a0_0 a0_1 a0_2 t270 t271 t272 _ A3.out).mono ?_); rintro e w25 ⟨rfl, hb⟩; refine ⟨_, rfl, ?_⟩; replace BK269 := bb BK269 hb; replace HB := as_ (below_step bA hb); (try clear hb); (try clear hb2); (try clear hk); (try clear hi); obtain ⟨hcz26_0, hcz26_1, hcz26_2⟩ := zc3 BK269; obtain ⟨hfz26_0, hfz26_1, hfz26_2⟩ := zf3 BK269) | ((with_reducible refine gate_callee (f := 10) rfl ?_); refine goesL_ (some 15) rfl rfl Tryd.func10 (by kernel_rfl) rfl #[.agg #[.int .i64 t270, .int .i64 t271, .string t272], .int .i64 a1] rfl aO ?_; (with_reducible refine (chain_May.calls t270 t271 t272 a1 true _ A4.out).mono ?_); rintro e w27 ⟨rfl, hb⟩; refine ⟨_, rfl, ?_⟩; replace BK269 := as_ (blk_below (g := gb269) (o := .cells #[.int .i64 t270, .int .i64 t271, .string t272] 23 (0, 0)) (by refine bx ?_; refine blk_put (cs := #[.int .i64 t270, .int .i64 t271, .string a0_2]) ?_ 2 _ rfl; refine bx ?_; refine blk_put (cs := #[.int .i64 t270, .int .i64 a0_1, .string a0_2]) ?_ 1 _ rfl; refine bx ?_; refine blk_put (cs := #[.int .i64 a0_0, .int .i64 a0_1, .string a0_2]) ?_ 0 _ rfl; refine bx ?_; exact BK269.out) hb); replace HB := as_ (below_step bA hb); (try clear hb); (try clear hb2); (try clear hk); (try clear hi); obtain ⟨hcz28_0, hcz28_1, hcz28_2⟩ := zc3 BK269; obtain ⟨hfz28_0, hfz28_1, hfz28_2⟩ := zf3 BK269) | ((with_reducible refine gate_dst (N := 35) rfl ?_); refine Kd.R_lit k23 _ 23 ?hg (N := 35) ?hd (xs := ([(⟨t270, t271, t272⟩ : S23), (⟨t270, t271, t272⟩ : S23), (⟨t270, t271, t272⟩ : S23), (⟨t270, t271, t272⟩ : S23), (⟨t270, t271, t272⟩ : S23), (⟨t270, t271, t272⟩ : S23), (⟨t270, t271, t272⟩ : S23)] : List (S23))) (inner := [.int .i64 t270, .int .i64 t271, .string t272, .int .i64 t270, .int .i64 t271, .string t272, .int .i64 t270, .int .i64 t271, .string t272, .int .i64 t270, .int .i64 t271, .string t272, .int .i64 t270, .int .i64 t271, .string t272, .int .i64 t270, .int .i64 t271, .string t272, .int .i64 t270, .int .i64 t271, .string t272]) (ok := fun _ => True) (okp := fun _ => True) ?hr ?hp (fun _ hk => hk) trivial (Below.refl _ _) (Nat.le_refl _) (by simp) ?_; (case hd => rfl); (case hg => rfl); (case hr => first | (go_simp; done) | (go_simp; rfl)); (case hp => exact (Reps.c3 (show Kd.M k23 _ _ _ (⟨t270, t271, t272⟩ : S23) [.int .i64 t270, .int .i64 t271, .string t272] from (k23_mkM _ _ _ (⟨t270, t271, t272⟩ : S23) )) (Reps.c3 (show Kd.M k23 _ _ _ (⟨t270, t271, t272⟩ : S23) [.int .i64 t270, .int .i64 t271, .string t272] from (k23_mkM _ _ _ (⟨t270, t271, t272⟩ : S23) )) (Reps.c3 (show Kd.M k23 _ _ _ (⟨t270, t271, t272⟩ : S23) [.int .i64 t270, .int .i64 t271, .string t272] from (k23_mkM _ _ _ (⟨t270, t271, t272⟩ : S23) )) (Reps.c3 (show Kd.M k23 _ _ _ (⟨t270, t271, t272⟩ : S23) [.int .i64 t270, .int .i64 t271, .string t272] from (k23_mkM _ _ _ (⟨t270, t271, t272⟩ : S23) )) (Reps.c3 (show Kd.M k23 _ _ _ (⟨t270, t271, t272⟩ : S23) [.int .i64 t270, .int .i64 t271, .string t272] from (k23_mkM _ _ _ (⟨t270, t271, t272⟩ : S23) )) (Reps.c3 (show Kd.M k23 _ _ _ (⟨t270, t271, t272⟩ : S23) [.int .i64 t270, .int .i64 t271, .string t272] from (k23_mkM _ _ _ (⟨t270, t271, t272⟩ : S23) )) (Reps.c3 (show Kd.M k23 _ _ _ (⟨t270, t271, t272⟩ : S23) [.int .i64 t270, .int .i64 t271, .string t272] from (k23_mkM _ _ _ (⟨t270, t271, t272⟩ : S23) )) (Reps.none _ _))))))))); intro v278 w29 ho30 hb hg_ hnew_; clear hg_ hnew_; (first | rw [← Ny277.out] at ho30 | (simp only [Int.reduceToNat] at ho30; rw [← Ny277.out] at ho30)); have HO279 := as_ (Kd.R_lower (Kd.R_newB ho30 (g := gb269) (o := .cells #[.int .i64 t270, .int .i64 t271, .string t272] 23 (0, 0)) (bk BK269)) (below_size bA)); replace BK269 := bb BK269 hb; replace HB := as_ (below_step bA hb); clear hb ho30; have p7 : 0 ≤ (0 : Int) := (by omega); have q7 : (0 : Int) < ((y277.length : Int) : Int) := of_decide_eq_true aM; have qi7 : (0 < y277.length) = True := eq_true (by omega); obtain ⟨go7, co7, eo7, gb7, gl7, cl7, HG7⟩ := Kd.R_form HO279.out (by omega); (first | cases eo7 | (injection eo7 with ea_ en_ ec_; (first | subst ea_ | (injection ea_ with ea_; subst ea_)); subst ec_; clear en_)); have GB7 := Aside0.mk gb7; have GG7 := Aside0.mk HG7; clear gb7 gl7 HG7; obtain ⟨ce7, hcl7, hM7, hcc7, hfr7⟩ := Kd.R_elem HO279.out z23 (0 : Int) p7 q7; obtain rfl := k23_openM hM7; have hx7_0 : w29.cell? ⟨go7, (0 : Int).toNat * 3, none⟩ = some (.int .i64 ((rd_T23 y277 0).f0)) := hcc7 0 _ rfl; have hx7_1 : w29.cell? ⟨go7, (0 : Int).toNat * 3 + 1, none⟩ = some (.int .i64 ((rd_T23 y277 0).f1)) := hcc7 1 _ rfl; have hx7_2 : w29.cell? ⟨go7, (0 : Int).toNat * 3 + 2, none⟩ = some (.string ((rd_T23 y277 0).f2)) := hcc7 2 _ rfl; have hf7_0 : w29.frozen? ⟨go7, (0 : Int).toNat * 3, none⟩ = false := hfr7 0; have hf7_1 : w29.frozen? ⟨go7, (0 : Int).toNat * 3 + 1, none⟩ = false := hfr7 1; have hf7_2 : w29.frozen? ⟨go7, (0 : Int).toNat * 3 + 2, none⟩ = false := hfr7 2; clear hcl7 hcc7 hfr7 hM7; (try rw [show ((0 : Int)).toNat = 0 from rfl] at hx7_0); (try simp only [Nat.reduceMul, Nat.zero_mul, Nat.zero_add, Nat.reduceAdd] at hx7_0); (try rw [show ((0 : Int)).toNat = 0 from rfl] at hf7_0); (try simp only [Nat.reduceMul, Nat.zero_mul, Nat.zero_add, Nat.reduceAdd] at hf7_0); (try rw [show ((0 : Int)).toNat = 0 from rfl] at hx7_1); (try simp only [Nat.reduceMul, Nat.zero_mul, Nat.zero_add, Nat.reduceAdd] at hx7_1); (try rw [show ((0 : Int)).toNat = 0 from rfl] at hf7_1); (try simp only [Nat.reduceMul, Nat.zero_mul, Nat.zero_add, Nat.reduceAdd] at hf7_1); (try rw [show ((0 : Int)).toNat = 0 from rfl] at hx7_2); (try simp only [Nat.reduceMul, Nat.zero_mul, Nat.zero_add, Nat.reduceAdd] at hx7_2); (try rw [show ((0 : Int)).toNat = 0 from rfl] at hf7_2); (try simp only [Nat.reduceMul, Nat.zero_mul, Nat.zero_add, Nat.reduceAdd] at hf7_2); replace p7 := eq_true p7; replace q7 := eq_true q7; have n_ := as_ (Kd.R_mono (ok' := (fun k_ => k_ ≠ gb269)) HO279.out (fun k_ hk => hk.2)); clear HO279; have HO279 := n_; clear n_; have HX31 := as_ (show Kd.R k23 23 w29 w.heap.size (fun k_ => k_ ≠ gb269) (.slice (some ⟨go7, 0, none⟩) y277.length co7) y277 from (by (with_reducible repeat (first | apply Kd.R_alloc | apply Kd.R_drewN | apply Kd.R_drew)); exact HO279.out)); obtain ⟨ce31, hcl31, hM31, hcc31, hfr31⟩ := Kd.R_elem HX31.out z23 (0 : Int) (by omega) (by have h_ : (0 : Int) < ((y277.length : Int) : Int) := of_decide_eq_true aM; first | exact h_ | (have e_ := (Kd.R_reads' HO279.out).1; omega) | simpa using h_); obtain rfl := k23_openM hM31; have HP31 := Kd.R_seg HX31.out (0 : Int) (by omega) (by have h_ : (0 : Int) < ((y277.length : Int) : Int) := of_decide_eq_true aM; first | exact h_ | (have e_ := (Kd.R_reads' HO279.out).1; omega) | simpa using h_) (seg := [.int .i64 0]) (j := 0) hcl31 hcc31 (show 1 ≤ 3 from by decide) (x' := (⟨0, (rd_T23 y277 0).f1, (rd_T23 y277 0).f2⟩ : S23)) (k23_mkM _ _ _ (⟨0, (rd_T23 y277 0).f1, (rd_T23 y277 0).f2⟩ : S23) ) (fun _ hk => hk); have hx31_0 := hcc31 0 _ rfl; (try simp only [show (k23).sz = 3 from rfl, Nat.mul_one, Nat.add_zero] at hx31_0); (try rw [show ((0 : Int)).toNat = 0 from rfl] at hx31_0); (try simp only [Nat.reduceMul, Nat.zero_mul, Nat.zero_add, Nat.reduceAdd] at hx31_0); have hf31_0 := hfr31 0; (try simp only [show (k23).sz = 3 from rfl, Nat.mul_one, Nat.add_zero] at hf31_0); (try rw [show ((0 : Int)).toNat = 0 from rfl] at hf31_0); (try simp only [Nat.reduceMul, Nat.zero_mul, Nat.zero_add, Nat.reduceAdd] at hf31_0); clear hcl31 hcc31 hfr31 hM31) | ((with_reducible refine gate_store (t := 3) (p := 38) rfl ?_); refine store_event (t := 3) (p := 38) (v := ?vo_w32) (w1 := (w29.setCell ⟨go7, 0, none⟩ (.int .i64 0))) ?hg ?ho ?hn ?hr ?_; (case ho => rfl); (case hg => rfl); (case hn => rfl); (case hr => first | (go_simp; done) | (go_simp; rfl)); intro w32 hw; have hg : w29.grownBy w32 (some go7) := (by rw [hw]; exact HP31.2); have hp_ : Kd.R k23 23 w32 w.heap.size (fun k_ => k_ ≠ gb269) (.slice (some ⟨go7, 0, none⟩) y277.length co7) y280 := (by rw [hw, Ny280.out]; exact HP31.1); clear HP31; replace BK269 := as_ (blk_grown (g := gb269) (o := .cells #[.int .i64 t270, .int .i64 t271, .string t272] 23 (0, 0)) (bk BK269) hg (Kd.R_away HO279.out (fun _ hk => hk))); replace HO279 := as_ (hp_); replace HB := as_ ((by rw [hw]; exact below_set (HB.out) GB7.out : Below w.heap.size w w32)); clear hg hw hp_; have p9 : 0 ≤ (1 : Int) := (by omega); have q9 : (1 : Int) < ((y277.length : Int) : Int) := of_decide_eq_true aM; have qi9 : (1 < y277.length) = True := eq_true (by omega); obtain ⟨ce9, hcl9, hM9, hcc9, hfr9⟩ := Kd.R_elem HO279.out z23 (1 : Int) p9 q9; obtain rfl := k23_openM hM9; have hx9_0 : w32.cell? ⟨go7, (1 : Int).toNat * 3, none⟩ = some (.int .i64 ((rd_T23 y280 1).f0)) := hcc9 0 _ rfl; have hx9_1 : w32.cell? ⟨go7, (1 : Int).toNat * 3 + 1, none⟩ = some (.int .i64 ((rd_T23 y280 1).f1)) := hcc9 1 _ rfl; have hx9_2 : w32.cell? ⟨go7, (1 : Int).toNat * 3 + 2, none⟩ = some (.string ((rd_T23 y280 1).f2)) := hcc9 2 _ rfl; have hf9_0 : w32.frozen? ⟨go7, (1 : Int).toNat * 3, none⟩ = false := hfr9 0; have hf9_1 : w32.frozen? ⟨go7, (1 : Int).toNat * 3 + 1, none⟩ = false := hfr9 1; have hf9_2 : w32.frozen? ⟨go7, (1 : Int).toNat * 3 + 2, none⟩ = false := hfr9 2; clear hcl9 hcc9 hfr9 hM9; (try rw [show ((1 : Int)).toNat = 1 from rfl] at hx9_0); (try simp only [Nat.reduceMul, Nat.zero_mul, Nat.zero_add, Nat.reduceAdd] at hx9_0); (try rw [show ((1 : Int)).toNat = 1 from rfl] at hf9_0); (try simp only [Nat.reduceMul, Nat.zero_mul, Nat.zero_add, Nat.reduceAdd] at hf9_0); (try rw [show ((1 : Int)).toNat = 1 from rfl] at hx9_1); (try simp only [Nat.reduceMul, Nat.zero_mul, Nat.zero_add, Nat.reduceAdd] at hx9_1); (try rw [show ((1 : Int)).toNat = 1 from rfl] at hf9_1); (try simp only [Nat.reduceMul, Nat.zero_mul, Nat.zero_add, Nat.reduceAdd] at hf9_1); (try rw [show ((1 : Int)).toNat = 1 from rfl] at hx9_2); (try simp only [Nat.reduceMul, Nat.zero_mul, Nat.zero_add, Nat.reduceAdd] at hx9_2); (try rw [show ((1 : Int)).toNat = 1 from rfl] at hf9_2); (try simp only [Nat.reduceMul, Nat.zero_mul, Nat.zero_add, Nat.reduceAdd] at hf9_2); replace p9 := eq_true p9; replace q9 := eq_true q9; have HX33 := as_ (show Kd.R k23 23 w32 w.heap.size (fun k_ => k_ ≠ gb269) (.slice (some ⟨go7, 0, none⟩) y277.length co7) y280 from (by (with_reducible repeat (first | apply Kd.R_alloc | apply Kd.R_drewN | apply Kd.R_drew)); exact HO279.out)); obtain ⟨ce33, hcl33, hM33, hcc33, hfr33⟩ := Kd.R_elem HX33.out z23 (1 : Int) (by omega) (by have h_ : (1 : Int) < ((y277.length : Int) : Int) := of_decide_eq_true aM; first | exact h_ | (have e_ := (Kd.R_reads' HO279.out).1; omega) | simpa using h_); obtain rfl := k23_openM hM33; have HP33 := Kd.R_seg HX33.out (1 : Int) (by omega) (by have h_ : (1 : Int) < ((y277.length : Int) : Int) := of_decide_eq_true aM; first | exact h_ | (have e_ := (Kd.R_reads' HO279.out).1; omega) | simpa using h_) (seg := [.int .i64 4096]) (j := 0) hcl33 hcc33 (show 1 ≤ 3 from by decide) (x' := (⟨4096, (rd_T23 y280 1).f1, (rd_T23 y280 1).f2⟩ : S23)) (k23_mkM _ _ _ (⟨4096, (rd_T23 y280 1).f1, (rd_T23 y280 1).f2⟩ : S23) ) (fun _ hk => hk); have hx33_0 := hcc33 0 _ rfl; (try simp only [show (k23).sz = 3 from rfl, Nat.mul_one, Nat.add_zero] at hx33_0); (try rw [show ((1 : Int)).toNat = 1 from rfl] at hx33_0); (try simp only [Nat.reduceMul, Nat.zero_mul, Nat.zero_add, Nat.reduceAdd] at hx33_0); have hf33_0 := hfr33 0; (try simp only [show (k23).sz = 3 from rfl, Nat.mul_one, Nat.add_zero] at hf33_0); (try rw [show ((1 : Int)).toNat = 1 from rfl] at hf33_0); (try simp only [Nat.reduceMul, Nat.zero_mul, Nat.zero_add, Nat.reduceAdd] at hf33_0); clear hcl33 hcc33 hfr33 hM33) | ((with_reducible refine gate_store (t := 3) (p := 41) rfl ?_); refine store_event (t := 3) (p := 41) (v := ?vo_w34) (w1 := (w32.setCell ⟨go7, 3, none⟩ (.int .i64 4096))) ?hg ?ho ?hn ?hr ?_; (case ho => rfl); (case hg => rfl); (case hn => rfl); (case hr => first | (go_simp; done) | (go_simp; rfl)); intro w34 hw; have hg : w32.grownBy w34 (some go7) := (by rw [hw]; exact HP33.2); have hp_ : Kd.R k23 23 w34 w.heap.size (fun k_ => k_ ≠ gb269) (.slice (some ⟨go7, 0, none⟩) y277.length co7) y281 := (by rw [hw, Ny281.out]; exact HP33.1); clear HP33; replace BK269 := as_ (blk_grown (g := gb269) (o := .cells #[.int .i64 t270, .int .i64 t271, .string t272] 23 (0, 0)) (bk BK269) hg (Kd.R_away HO279.out (fun _ hk => hk))); replace HO279 := as_ (hp_); replace HB := as_ ((by rw [hw]; exact below_set (HB.out) GB7.out : Below w.heap.size w w34)); clear hg hw hp_; have p11 : 0 ≤ (2 : Int) := (by omega); have q11 : (2 : Int) < ((y277.length : Int) : Int) := of_decide_eq_true aM; have qi11 : (2 < y277.length) = True := eq_true (by omega); obtain ⟨ce11, hcl11, hM11, hcc11, hfr11⟩ := Kd.R_elem HO279.out z23 (2 : Int) p11 q11; obtain rfl := k23_openM hM11; have hx11_0 : w34.cell? ⟨go7, (2 : Int).toNat * 3, none⟩ = some (.int .i64 ((rd_T23 y281 2).f0)) := hcc11 0 _ rfl; have hx11_1 : w34.cell? ⟨go7, (2 : Int).toNat * 3 + 1, none⟩ = some (.int .i64 ((rd_T23 y281 2).f1)) := hcc11 1 _ rfl; have hx11_2 : w34.cell? ⟨go7, (2 : Int).toNat * 3 + 2, none⟩ = some (.string ((rd_T23 y281 2).f2)) := hcc11 2 _ rfl; have hf11_0 : w34.frozen? ⟨go7, (2 : Int).toNat * 3, none⟩ = false := hfr11 0; have hf11_1 : w34.frozen? ⟨go7, (2 : Int).toNat * 3 + 1, none⟩ = false := hfr11 1; have hf11_2 : w34.frozen? ⟨go7, (2 : Int).toNat * 3 + 2, none⟩ = false := hfr11 2; clear hcl11 hcc11 hfr11 hM11; (try rw [show ((2 : Int)).toNat = 2 from rfl] at hx11_0); (try simp only [Nat.reduceMul, Nat.zero_mul, Nat.zero_add, Nat.reduceAdd] at hx11_0); (try rw [show ((2 : Int)).toNat = 2 from rfl] at hf11_0); (try simp only [Nat.reduceMul, Nat.zero_mul, Nat.zero_add, Nat.reduceAdd] at hf11_0); (try rw [show ((2 : Int)).toNat = 2 from rfl] at hx11_1); (try simp only [Nat.reduceMul, Nat.zero_mul, Nat.zero_add, Nat.reduceAdd] at hx11_1); (try rw [show ((2 : Int)).toNat = 2 from rfl] at hf11_1); (try simp only [Nat.reduceMul, Nat.zero_mul, Nat.zero_add, Nat.reduceAdd] at hf11_1); (try rw [show ((2 : Int)).toNat = 2 from rfl] at hx11_2); (try simp only [Nat.reduceMul, Nat.zero_mul, Nat.zero_add, Nat.reduceAdd] at hx11_2); (try rw [show ((2 : Int)).toNat = 2 from rfl] at hf11_2); (try simp only [Nat.reduceMul, Nat.zero_mul, Nat.zero_add, Nat.reduceAdd] at hf11_2); replace p11 := eq_true p11; replace q11 := eq_true q11; have HX35 := as_ (show Kd.R k23 23 w34 w.heap.size (fun k_ => k_ ≠ gb269) (.slice (some ⟨go7, 0, none⟩) y277.length co7) y281 from (by (with_reducible repeat (first | apply Kd.R_alloc | apply Kd.R_drewN | apply Kd.R_drew)); exact HO279.out)); obtain ⟨ce35, hcl35, hM35, hcc35, hfr35⟩ := Kd.R_elem HX35.out z23 (2 : Int) (by omega) (by have h_ : (2 : Int) < ((y277.length : Int) : Int) := of_decide_eq_true aM; first | exact h_ | (have e_ := (Kd.R_reads' HO279.out).1; omega) | simpa using h_); obtain rfl := k23_openM hM35; have HP35 := Kd.R_seg HX35.out (2 : Int) (by omega) (by have h_ : (2 : Int) < ((y277.length : Int) : Int) := of_decide_eq_true aM; first | exact h_ | (have e_ := (Kd.R_reads' HO279.out).1; omega) | simpa using h_) (seg := [.int .i64 (-1)]) (j := 1) hcl35 hcc35 (show 2 ≤ 3 from by decide) (x' := (⟨(rd_T23 y281 2).f0, (-1), (rd_T23 y281 2).f2⟩ : S23)) (k23_mkM _ _ _ (⟨(rd_T23 y281 2).f0, (-1), (rd_T23 y281 2).f2⟩ : S23) ) (fun _ hk => hk); have hx35_1 := hcc35 1 _ rfl; (try simp only [show (k23).sz = 3 from rfl, Nat.mul_one, Nat.add_zero] at hx35_1); (try rw [show ((2 : Int)).toNat = 2 from rfl] at hx35_1); (try simp only [Nat.reduceMul, Nat.zero_mul, Nat.zero_add, Nat.reduceAdd] at hx35_1); have hf35_1 := hfr35 1; (try simp only [show (k23).sz = 3 from rfl, Nat.mul_one, Nat.add_zero] at hf35_1); (try rw [show ((2 : Int)).toNat = 2 from rfl] at hf35_1); (try simp only [Nat.reduceMul, Nat.zero_mul, Nat.zero_add, Nat.reduceAdd] at hf35_1); clear hcl35 hcc35 hfr35 hM35) | ((with_reducible refine gate_store (t := 3) (p := 44) rfl ?_); refine store_event (t := 3) (p := 44) (v := ?vo_w36) (w1 := (w34.setCell ⟨go7, 7, none⟩ (.int .i64 (-1)))) ?hg ?ho ?hn ?hr ?_; (case ho => rfl); (case hg => rfl); (case hn => rfl); (case hr => first | (go_simp; done) | (go_simp; rfl)); intro w36 hw; have hg : w34.grownBy w36 (some go7) := (by rw [hw]; exact HP35.2); have hp_ : Kd.R k23 23 w36 w.heap.size (fun k_ => k_ ≠ gb269) (.slice (some ⟨go7, 0, none⟩) y277.length co7) y282 := (by rw [hw, Ny282.out]; exact HP35.1); clear HP35; replace BK269 := as_ (blk_grown (g := gb269) (o := .cells #[.int .i64 t270, .int .i64 t271, .string t272] 23 (0, 0)) (bk BK269) hg (Kd.R_away HO279.out (fun _ hk => hk))); replace HO279 := as_ (hp_); replace HB := as_ ((by rw [hw]; exact below_set (HB.out) GB7.out : Below w.heap.size w w36)); clear hg hw hp_; obtain ⟨hcz37_0, hcz37_1, hcz37_2⟩ := zc3 BK269; obtain ⟨hfz37_0, hfz37_1, hfz37_2⟩ := zf3 BK269; have p13 : 0 ≤ (3 : Int) := (by omega); have q13 : (3 : Int) < ((y277.length : Int) : Int) := of_decide_eq_true aM; have qi13 : (3 < y277.length) = True := eq_true (by omega); obtain ⟨ce13, hcl13, hM13, hcc13, hfr13⟩ := Kd.R_elem HO279.out z23 (3 : Int) p13 q13; obtain rfl := k23_openM hM13; have hx13_0 : w36.cell? ⟨go7, (3 : Int).toNat * 3, none⟩ = some (.int .i64 ((rd_T23 y282 3).f0)) := hcc13 0 _ rfl; have hx13_1 : w36.cell? ⟨go7, (3 : Int).toNat * 3 + 1, none⟩ = some (.int .i64 ((rd_T23 y282 3).f1)) := hcc13 1 _ rfl; have hx13_2 : w36.cell? ⟨go7, (3 : Int).toNat * 3 + 2, none⟩ = some (.string ((rd_T23 y282 3).f2)) := hcc13 2 _ rfl; have hf13_0 : w36.frozen? ⟨go7, (3 : Int).toNat * 3, none⟩ = false := hfr13 0; have hf13_1 : w36.frozen? ⟨go7, (3 : Int).toNat * 3 + 1, none⟩ = false := hfr13 1; have hf13_2 : w36.frozen? ⟨go7, (3 : Int).toNat * 3 + 2, none⟩ = false := hfr13 2; clear hcl13 hcc13 hfr13 hM13; (try rw [show ((3 : Int)).toNat = 3 from rfl] at hx13_0); (try simp only [Nat.reduceMul, Nat.zero_mul, Nat.zero_add, Nat.reduceAdd] at hx13_0); (try rw [show ((3 : Int)).toNat = 3 from rfl] at hf13_0); (try simp only [Nat.reduceMul, Nat.zero_mul, Nat.zero_add, Nat.reduceAdd] at hf13_0); (try rw [show ((3 : Int)).toNat = 3 from rfl] at hx13_1); (try simp only [Nat.reduceMul, Nat.zero_mul, Nat.zero_add, Nat.reduceAdd] at hx13_1); (try rw [show ((3 : Int)).toNat = 3 from rfl] at hf13_1); (try simp only [Nat.reduceMul, Nat.zero_mul, Nat.zero_add, Nat.reduceAdd] at hf13_1); (try rw [show ((3 : Int)).toNat = 3 from rfl] at hx13_2); (try simp only [Nat.reduceMul, Nat.zero_mul, Nat.zero_add, Nat.reduceAdd] at hx13_2); (try rw [show ((3 : Int)).toNat = 3 from rfl] at hf13_2); (try simp only [Nat.reduceMul, Nat.zero_mul, Nat.zero_add, Nat.reduceAdd] at hf13_2); replace p13 := eq_true p13; replace q13 := eq_true q13; have HX38 := as_ (show Kd.R k23 23 w36 w.heap.size (fun k_ => k_ ≠ gb269) (.slice (some ⟨go7, 0, none⟩) y277.length co7) y282 from (by (with_reducible repeat (first | apply Kd.R_alloc | apply Kd.R_drewN | apply Kd.R_drew)); exact HO279.out)); obtain ⟨ce38, hcl38, hM38, hcc38, hfr38⟩ := Kd.R_elem HX38.out z23 (3 : Int) (by omega) (by have h_ : (3 : Int) < ((y277.length : Int) : Int) := of_decide_eq_true aM; first | exact h_ | (have e_ := (Kd.R_reads' HO279.out).1; omega) | simpa using h_); obtain rfl := k23_openM hM38; have HP38 := Kd.R_seg HX38.out (3 : Int) (by omega) (by have h_ : (3 : Int) < ((y277.length : Int) : Int) := of_decide_eq_true aM; first | exact h_ | (have e_ := (Kd.R_reads' HO279.out).1; omega) | simpa using h_) (seg := [.int .i64 t270]) (j := 1) hcl38 hcc38 (show 2 ≤ 3 from by decide) (x' := (⟨(rd_T23 y282 3).f0, t270, (rd_T23 y282 3).f2⟩ : S23)) (k23_mkM _ _ _ (⟨(rd_T23 y282 3).f0, t270, (rd_T23 y282 3).f2⟩ : S23) ) (fun _ hk => hk); have hx38_1 := hcc38 1 _ rfl; (try simp only [show (k23).sz = 3 from rfl, Nat.mul_one, Nat.add_zero] at hx38_1); (try rw [show ((3 : Int)).toNat = 3 from rfl] at hx38_1); (try simp only [Nat.reduceMul, Nat.zero_mul, Nat.zero_add, Nat.reduceAdd] at hx38_1); have hf38_1 := hfr38 1; (try simp only [show (k23).sz = 3 from rfl, Nat.mul_one, Nat.add_zero] at hf38_1); (try rw [show ((3 : Int)).toNat = 3 from rfl] at hf38_1); (try simp only [Nat.reduceMul, Nat.zero_mul, Nat.zero_add, Nat.reduceAdd] at hf38_1); clear hcl38 hcc38 hfr38 hM38) | ((with_reducible refine gate_store (t := 3) (p := 49) rfl ?_); refine store_event (t := 3) (p := 49) (v := ?vo_w39) (w1 := (w36.setCell ⟨go7, 10, none⟩ (.int .i64 t270))) ?hg ?ho ?hn ?hr ?_; (case ho => rfl); (case hg => rfl); (case hn => rfl); (case hr => first | (go_simp; done) | (go_simp; rfl)); intro w39 hw; have hg : w36.grownBy w39 (some go7) := (by rw [hw]; exact HP38.2); have hp_ : Kd.R k23 23 w39 w.heap.size (fun k_ => k_ ≠ gb269) (.slice (some ⟨go7, 0, none⟩) y277.length co7) y283 := (by rw [hw, Ny283.out]; exact HP38.1); clear HP38; replace BK269 := as_ (blk_grown (g := gb269) (o := .cells #[.int .i64 t270, .int .i64 t271, .string t272] 23 (0, 0)) (bk BK269) hg (Kd.R_away HO279.out (fun _ hk => hk))); replace HO279 := as_ (hp_); replace HB := as_ ((by rw [hw]; exact below_set (HB.out) GB7.out : Below w.heap.size w w39)); clear hg hw hp_; have p15 : 0 ≤ (4 : Int) := (by omega); have q15 : (4 : Int) < ((y277.length : Int) : Int) := of_decide_eq_true aM; have qi15 : (4 < y277.length) = True := eq_true (by omega); obtain ⟨ce15, hcl15, hM15, hcc15, hfr15⟩ := Kd.R_elem HO279.out z23 (4 : Int) p15 q15; obtain rfl := k23_openM hM15; have hx15_0 : w39.cell? ⟨go7, (4 : Int).toNat * 3, none⟩ = some (.int .i64 ((rd_T23 y283 4).f0)) := hcc15 0 _ rfl; have hx15_1 : w39.cell? ⟨go7, (4 : Int).toNat * 3 + 1, none⟩ = some (.int .i64 ((rd_T23 y283 4).f1)) := hcc15 1 _ rfl; have hx15_2 : w39.cell? ⟨go7, (4 : Int).toNat * 3 + 2, none⟩ = some (.string ((rd_T23 y283 4).f2)) := hcc15 2 _ rfl; have hf15_0 : w39.frozen? ⟨go7, (4 : Int).toNat * 3, none⟩ = false := hfr15 0; have hf15_1 : w39.frozen? ⟨go7, (4 : Int).toNat * 3 + 1, none⟩ = false := hfr15 1; have hf15_2 : w39.frozen? ⟨go7, (4 : Int).toNat * 3 + 2, none⟩ = false := hfr15 2; clear hcl15 hcc15 hfr15 hM15; (try rw [show ((4 : Int)).toNat = 4 from rfl] at hx15_0); (try simp only [Nat.reduceMul, Nat.zero_mul, Nat.zero_add, Nat.reduceAdd] at hx15_0); (try rw [show ((4 : Int)).toNat = 4 from rfl] at hf15_0); (try simp only [Nat.reduceMul, Nat.zero_mul, Nat.zero_add, Nat.reduceAdd] at hf15_0); (try rw [show ((4 : Int)).toNat = 4 from rfl] at hx15_1); (try simp only [Nat.reduceMul, Nat.zero_mul, Nat.zero_add, Nat.reduceAdd] at hx15_1); (try rw [show ((4 : Int)).toNat = 4 from rfl] at hf15_1); (try simp only [Nat.reduceMul, Nat.zero_mul, Nat.zero_add, Nat.reduceAdd] at hf15_1); (try rw [show ((4 : Int)).toNat = 4 from rfl] at hx15_2); (try simp only [Nat.reduceMul, Nat.zero_mul, Nat.zero_add, Nat.reduceAdd] at hx15_2); (try rw [show ((4 : Int)).toNat = 4 from rfl] at hf15_2); (try simp only [Nat.reduceMul, Nat.zero_mul, Nat.zero_add, Nat.reduceAdd] at hf15_2); replace p15 := eq_true p15; replace q15 := eq_true q15; have HX40 := as_ (show Kd.R k23 23 w39 w.heap.size (fun k_ => k_ ≠ gb269) (.slice (some ⟨go7, 0, none⟩) y277.length co7) y283 from (by (with_reducible repeat (first | apply Kd.R_alloc | apply Kd.R_drewN | apply Kd.R_drew)); exact HO279.out)); obtain ⟨ce40, hcl40, hM40, hcc40, hfr40⟩ := Kd.R_elem HX40.out z23 (4 : Int) (by omega) (by have h_ : (4 : Int) < ((y277.length : Int) : Int) := of_decide_eq_true aM; first | exact h_ | (have e_ := (Kd.R_reads' HO279.out).1; omega) | simpa using h_); obtain rfl := k23_openM hM40; have HP40 := Kd.R_seg HX40.out (4 : Int) (by omega) (by have h_ : (4 : Int) < ((y277.length : Int) : Int) := of_decide_eq_true aM; first | exact h_ | (have e_ := (Kd.R_reads' HO279.out).1; omega) | simpa using h_) (seg := [.string (⟨#[]⟩ : ByteArray)]) (j := 2) hcl40 hcc40 (show 3 ≤ 3 from by decide) (x' := (⟨(rd_T23 y283 4).f0, (rd_T23 y283 4).f1, (⟨#[]⟩ : ByteArray)⟩ : S23)) (k23_mkM _ _ _ (⟨(rd_T23 y283 4).f0, (rd_T23 y283 4).f1, (⟨#[]⟩ : ByteArray)⟩ : S23) ) (fun _ hk => hk); have hx40_2 := hcc40 2 _ rfl; (try simp only [show (k23).sz = 3 from rfl, Nat.mul_one, Nat.add_zero] at hx40_2); (try rw [show ((4 : Int)).toNat = 4 from rfl] at hx40_2); (try simp only [Nat.reduceMul, Nat.zero_mul, Nat.zero_add, Nat.reduceAdd] at hx40_2); have hf40_2 := hfr40 2; (try simp only [show (k23).sz = 3 from rfl, Nat.mul_one, Nat.add_zero] at hf40_2); (try rw [show ((4 : Int)).toNat = 4 from rfl] at hf40_2); (try simp only [Nat.reduceMul, Nat.zero_mul, Nat.zero_add, Nat.reduceAdd] at hf40_2); clear hcl40 hcc40 hfr40 hM40) | ((with_reducible refine gate_store (t := 9) (p := 52) rfl ?_); refine store_event (t := 9) (p := 52) (v := ?vo_w41) (w1 := (w39.setCell ⟨go7, 14, none⟩ (.string (⟨#[]⟩ : ByteArray)))) ?hg ?ho ?hn ?hr ?_; (case ho => rfl); (case hg => rfl); (case hn => rfl); (case hr => first | (go_simp; done) | (go_simp; rfl)); intro w41 hw; have hg : w39.grownBy w41 (some go7) := (by rw [hw]; exact HP40.2); have hp_ : Kd.R k23 23 w41 w.heap.size (fun k_ => k_ ≠ gb269) (.slice (some ⟨go7, 0, none⟩) y277.length co7) y284 := (by rw [hw, Ny284.out]; exact HP40.1); clear HP40; replace BK269 := as_ (blk_grown (g := gb269) (o := .cells #[.int .i64 t270, .int .i64 t271, .string t272] 23 (0, 0)) (bk BK269) hg (Kd.R_away HO279.out (fun _ hk => hk))); replace HO279 := as_ (hp_); replace HB := as_ ((by rw [hw]; exact below_set (HB.out) GB7.out : Below w.heap.size w w41)); clear hg hw hp_) | ((with_reducible refine gate_callee (f := 16) rfl ?_); refine goesL_ (some 56) rfl rfl Tryd.func16 (by kernel_rfl) rfl #[.int .u8 1, .int .i64 (wrap64 (a1 - 15))] rfl aO ?_; (first | (with_reducible refine (withyref01_Repeat.calls k 1 (wrap64 (a1 - 15)) t285 _ A16.out).mono ?_) | (with_reducible refine (withyref01_Repeat.calls k 1 (a1 - 15) t285 _ (by have e_ := A16.out; rwa [(by unfold wrap64; omega : wrap64 (a1 - 15) = (a1 - 15))] at e_)).mono ?_)); rintro e w42 ⟨rfl, hb⟩; refine ⟨_, rfl, ?_⟩; replace HO279 := as_ (Kd.R_below (by (with_reducible repeat (first | apply Kd.R_alloc | apply Kd.R_drewN | apply Kd.R_drew)); exact HO279.out) hb); replace BK269 := bb BK269 hb; replace HB := as_ (below_step bA hb); (try clear hb); (try clear hb2); (try clear hk); (try clear hi); have p18 : 0 ≤ (5 : Int) := (by omega); have q18 : (5 : Int) < ((y277.length : Int) : Int) := of_decide_eq_true aM; have qi18 : (5 < y277.length) = True := eq_true (by omega); obtain ⟨ce18, hcl18, hM18, hcc18, hfr18⟩ := Kd.R_elem HO279.out z23 (5 : Int) p18 q18; obtain rfl := k23_openM hM18; have hx18_0 : w42.cell? ⟨go7, (5 : Int).toNat * 3, none⟩ = some (.int .i64 ((rd_T23 y284 5).f0)) := hcc18 0 _ rfl; have hx18_1 : w42.cell? ⟨go7, (5 : Int).toNat * 3 + 1, none⟩ = some (.int .i64 ((rd_T23 y284 5).f1)) := hcc18 1 _ rfl; have hx18_2 : w42.cell? ⟨go7, (5 : Int).toNat * 3 + 2, none⟩ = some (.string ((rd_T23 y284 5).f2)) := hcc18 2 _ rfl; have hf18_0 : w42.frozen? ⟨go7, (5 : Int).toNat * 3, none⟩ = false := hfr18 0; have hf18_1 : w42.frozen? ⟨go7, (5 : Int).toNat * 3 + 1, none⟩ = false := hfr18 1; have hf18_2 : w42.frozen? ⟨go7, (5 : Int).toNat * 3 + 2, none⟩ = false := hfr18 2; clear hcl18 hcc18 hfr18 hM18; (try rw [show ((5 : Int)).toNat = 5 from rfl] at hx18_0); (try simp only [Nat.reduceMul, Nat.zero_mul, Nat.zero_add, Nat.reduceAdd] at hx18_0); (try rw [show ((5 : Int)).toNat = 5 from rfl] at hf18_0); (try simp only [Nat.reduceMul, Nat.zero_mul, Nat.zero_add, Nat.reduceAdd] at hf18_0); (try rw [show ((5 : Int)).toNat = 5 from rfl] at hx18_1); (try simp only [Nat.reduceMul, Nat.zero_mul, Nat.zero_add, Nat.reduceAdd] at hx18_1); (try rw [show ((5 : Int)).toNat = 5 from rfl] at hf18_1); (try simp only [Nat.reduceMul, Nat.zero_mul, Nat.zero_add, Nat.reduceAdd] at hf18_1); (try rw [show ((5 : Int)).toNat = 5 from rfl] at hx18_2); (try simp only [Nat.reduceMul, Nat.zero_mul, Nat.zero_add, Nat.reduceAdd] at hx18_2); (try rw [show ((5 : Int)).toNat = 5 from rfl] at hf18_2); (try simp only [Nat.reduceMul, Nat.zero_mul, Nat.zero_add, Nat.reduceAdd] at hf18_2); replace p18 := eq_true p18; replace q18 := eq_true q18; have HX43 := as_ (show Kd.R k23 23 w42 w.heap.size (fun k_ => k_ ≠ gb269) (.slice (some ⟨go7, 0, none⟩) y277.length co7) y284 from (by (with_reducible repeat (first | apply Kd.R_alloc | apply Kd.R_drewN | apply Kd.R_drew)); exact HO279.out)); obtain ⟨ce43, hcl43, hM43, hcc43, hfr43⟩ := Kd.R_elem HX43.out z23 (5 : Int) (by omega) (by have h_ : (5 : Int) < ((y277.length : Int) : Int) := of_decide_eq_true aM; first | exact h_ | (have e_ := (Kd.R_reads' HO279.out).1; omega) | simpa using h_); obtain rfl := k23_openM hM43; have HP43 := Kd.R_seg HX43.out (5 : Int) (by omega) (by have h_ : (5 : Int) < ((y277.length : Int) : Int) := of_decide_eq_true aM; first | exact h_ | (have e_ := (Kd.R_reads' HO279.out).1; omega) | simpa using h_) (seg := [.string t285]) (j := 2) hcl43 hcc43 (show 3 ≤ 3 from by decide) (x' := (⟨(rd_T23 y284 5).f0, (rd_T23 y284 5).f1, t285⟩ : S23)) (k23_mkM _ _ _ (⟨(rd_T23 y284 5).f0, (rd_T23 y284 5).f1, t285⟩ : S23) ) (fun _ hk => hk); have hx43_2 := hcc43 2 _ rfl; (try simp only [show (k23).sz = 3 from rfl, Nat.mul_one, Nat.add_zero] at hx43_2); (try rw [show ((5 : Int)).toNat = 5 from rfl] at hx43_2); (try simp only [Nat.reduceMul, Nat.zero_mul, Nat.zero_add, Nat.reduceAdd] at hx43_2); have hf43_2 := hfr43 2; (try simp only [show (k23).sz = 3 from rfl, Nat.mul_one, Nat.add_zero] at hf43_2); (try rw [show ((5 : Int)).toNat = 5 from rfl] at hf43_2); (try simp only [Nat.reduceMul, Nat.zero_mul, Nat.zero_add, Nat.reduceAdd] at hf43_2); clear hcl43 hcc43 hfr43 hM43) | ((with_reducible refine gate_store (t := 9) (p := 58) rfl ?_); refine store_event (t := 9) (p := 58) (v := ?vo_w44) (w1 := (w42.setCell ⟨go7, 17, none⟩ (.string t285))) ?hg ?ho ?hn ?hr ?_; (case ho => rfl); (case hg => rfl); (case hn => rfl); (case hr => first | (go_simp; done) | (go_simp; rfl)); intro w44 hw; have hg : w42.grownBy w44 (some go7) := (by rw [hw]; exact HP43.2); have hp_ : Kd.R k23 23 w44 w.heap.size (fun k_ => k_ ≠ gb269) (.slice (some ⟨go7, 0, none⟩) y277.length co7) y286 := (by rw [hw, Ny286.out]; exact HP43.1); clear HP43; replace BK269 := as_ (blk_grown (g := gb269) (o := .cells #[.int .i64 t270, .int .i64 t271, .string t272] 23 (0, 0)) (bk BK269) hg (Kd.R_away HO279.out (fun _ hk => hk))); replace HO279 := as_ (hp_); replace HB := as_ ((by rw [hw]; exact below_set (HB.out) GB7.out : Below w.heap.size w w44)); clear hg hw hp_) | ((with_reducible refine gate_callee (f := 16) rfl ?_); refine goesL_ (some 62) rfl rfl Tryd.func16 (by kernel_rfl) rfl #[.int .u8 1, .int .i64 (wrap64 (a1 - 17))] rfl aO ?_; (first | (with_reducible refine (withyref01_Repeat.calls k 1 (wrap64 (a1 - 17)) t287 _ A19.out).mono ?_) | (with_reducible refine (withyref01_Repeat.calls k 1 (a1 - 17) t287 _ (by have e_ := A19.out; rwa [(by unfold wrap64; omega : wrap64 (a1 - 17) = (a1 - 17))] at e_)).mono ?_)); rintro e w45 ⟨rfl, hb⟩; refine ⟨_, rfl, ?_⟩; replace HO279 := as_ (Kd.R_below (by (with_reducible repeat (first | apply Kd.R_alloc | apply Kd.R_drewN | apply Kd.R_drew)); exact HO279.out) hb); replace BK269 := bb BK269 hb; replace HB := as_ (below_step bA hb); (try clear hb); (try clear hb2); (try clear hk); (try clear hi); have p21 : 0 ≤ (6 : Int) := (by omega); have q21 : (6 : Int) < ((y277.length : Int) : Int) := of_decide_eq_true aM; have qi21 : (6 < y277.length) = True := eq_true (by omega); obtain ⟨ce21, hcl21, hM21, hcc21, hfr21⟩ := Kd.R_elem HO279.out z23 (6 : Int) p21 q21; obtain rfl := k23_openM hM21; have hx21_0 : w45.cell? ⟨go7, (6 : Int).toNat * 3, none⟩ = some (.int .i64 ((rd_T23 y286 6).f0)) := hcc21 0 _ rfl; have hx21_1 : w45.cell? ⟨go7, (6 : Int).toNat * 3 + 1, none⟩ = some (.int .i64 ((rd_T23 y286 6).f1)) := hcc21 1 _ rfl; have hx21_2 : w45.cell? ⟨go7, (6 : Int).toNat * 3 + 2, none⟩ = some (.string ((rd_T23 y286 6).f2)) := hcc21 2 _ rfl; have hf21_0 : w45.frozen? ⟨go7, (6 : Int).toNat * 3, none⟩ = false := hfr21 0; have hf21_1 : w45.frozen? ⟨go7, (6 : Int).toNat * 3 + 1, none⟩ = false := hfr21 1; have hf21_2 : w45.frozen? ⟨go7, (6 : Int).toNat * 3 + 2, none⟩ = false := hfr21 2; clear hcl21 hcc21 hfr21 hM21; (try rw [show ((6 : Int)).toNat = 6 from rfl] at hx21_0); (try simp only [Nat.reduceMul, Nat.zero_mul, Nat.zero_add, Nat.reduceAdd] at hx21_0); (try rw [show ((6 : Int)).toNat = 6 from rfl] at hf21_0); (try simp only [Nat.reduceMul, Nat.zero_mul, Nat.zero_add, Nat.reduceAdd] at hf21_0); (try rw [show ((6 : Int)).toNat = 6 from rfl] at hx21_1); (try simp only [Nat.reduceMul, Nat.zero_mul, Nat.zero_add, Nat.reduceAdd] at hx21_1); (try rw [show ((6 : Int)).toNat = 6 from rfl] at hf21_1); (try simp only [Nat.reduceMul, Nat.zero_mul, Nat.zero_add, Nat.reduceAdd] at hf21_1); (try rw [show ((6 : Int)).toNat = 6 from rfl] at hx21_2); (try simp only [Nat.reduceMul, Nat.zero_mul, Nat.zero_add, Nat.reduceAdd] at hx21_2); (try rw [show ((6 : Int)).toNat = 6 from rfl] at hf21_2); (try simp only [Nat.reduceMul, Nat.zero_mul, Nat.zero_add, Nat.reduceAdd] at hf21_2); replace p21 := eq_true p21; replace q21 := eq_true q21; have HX46 := as_ (show Kd.R k23 23 w45 w.heap.size (fun k_ => k_ ≠ gb269) (.slice (some ⟨go7, 0, none⟩) y277.length co7) y286 from (by (with_reducible repeat (first | apply Kd.R_alloc | apply Kd.R_drewN | apply Kd.R_drew)); exact HO279.out)); obtain ⟨ce46, hcl46, hM46, hcc46, hfr46⟩ := Kd.R_elem HX46.out z23 (6 : Int) (by omega) (by have h_ : (6 : Int) < ((y277.length : Int) : Int) := of_decide_eq_true aM; first | exact h_ | (have e_ := (Kd.R_reads' HO279.out).1; omega) | simpa using h_); obtain rfl := k23_openM hM46; have HP46 := Kd.R_seg HX46.out (6 : Int) (by omega) (by have h_ : (6 : Int) < ((y277.length : Int) : Int) := of_decide_eq_true aM; first | exact h_ | (have e_ := (Kd.R_reads' HO279.out).1; omega) | simpa using h_) (seg := [.string t287]) (j := 2) hcl46 hcc46 (show 3 ≤ 3 from by decide) (x' := (⟨(rd_T23 y286 6).f0, (rd_T23 y286 6).f1, t287⟩ : S23)) (k23_mkM _ _ _ (⟨(rd_T23 y286 6).f0, (rd_T23 y286 6).f1, t287⟩ : S23) ) (fun _ hk => hk); have hx46_2 := hcc46 2 _ rfl; (try simp only [show (k23).sz = 3 from rfl, Nat.mul_one, Nat.add_zero] at hx46_2); (try rw [show ((6 : Int)).toNat = 6 from rfl] at hx46_2); (try simp only [Nat.reduceMul, Nat.zero_mul, Nat.zero_add, Nat.reduceAdd] at hx46_2); have hf46_2 := hfr46 2; (try simp only [show (k23).sz = 3 from rfl, Nat.mul_one, Nat.add_zero] at hf46_2); (try rw [show ((6 : Int)).toNat = 6 from rfl] at hf46_2); (try simp only [Nat.reduceMul, Nat.zero_mul, Nat.zero_add, Nat.reduceAdd] at hf46_2); clear hcl46 hcc46 hfr46 hM46) | ((with_reducible refine gate_store (t := 9) (p := 64) rfl ?_); refine store_event (t := 9) (p := 64) (v := ?vo_w47) (w1 := (w45.setCell ⟨go7, 20, none⟩ (.string t287))) ?hg ?ho ?hn ?hr ?_; (case ho => rfl); (case hg => rfl); (case hn => rfl); (case hr => first | (go_simp; done) | (go_simp; rfl)); intro w47 hw; have hg : w45.grownBy w47 (some go7) := (by rw [hw]; exact HP46.2); have hp_ : Kd.R k23 23 w47 w.heap.size (fun k_ => k_ ≠ gb269) (.slice (some ⟨go7, 0, none⟩) y277.length co7) y288 := (by rw [hw, Ny288.out]; exact HP46.1); clear HP46; replace BK269 := as_ (blk_grown (g := gb269) (o := .cells #[.int .i64 t270, .int .i64 t271, .string t272] 23 (0, 0)) (bk BK269) hg (Kd.R_away HO279.out (fun _ hk => hk))); replace HO279 := as_ (hp_); replace HB := as_ ((by rw [hw]; exact below_set (HB.out) GB7.out : Below w.heap.size w w47)); clear hg hw hp_; obtain ⟨hcz48_0, hcz48_1, hcz48_2⟩ := zc3 BK269; obtain ⟨hfz48_0, hfz48_1, hfz48_2⟩ := zf3 BK269; have p22 : 0 ≤ (6 : Int) := (by omega); have q22 : (6 : Int) < ((y277.length : Int) : Int) := of_decide_eq_true aM; have qi22 : (6 < y277.length) = True := eq_true (by omega); obtain ⟨ce22, hcl22, hM22, hcc22, hfr22⟩ := Kd.R_elem HO279.out z23 (6 : Int) p22 q22; obtain rfl := k23_openM hM22; have hx22_0 : w47.cell? ⟨go7, (6 : Int).toNat * 3, none⟩ = some (.int .i64 ((rd_T23 y288 6).f0)) := hcc22 0 _ rfl; have hx22_1 : w47.cell? ⟨go7, (6 : Int).toNat * 3 + 1, none⟩ = some (.int .i64 ((rd_T23 y288 6).f1)) := hcc22 1 _ rfl; have hx22_2 : w47.cell? ⟨go7, (6 : Int).toNat * 3 + 2, none⟩ = some (.string ((rd_T23 y288 6).f2)) := hcc22 2 _ rfl; have hf22_0 : w47.frozen? ⟨go7, (6 : Int).toNat * 3, none⟩ = false := hfr22 0; have hf22_1 : w47.frozen? ⟨go7, (6 : Int).toNat * 3 + 1, none⟩ = false := hfr22 1; have hf22_2 : w47.frozen? ⟨go7, (6 : Int).toNat * 3 + 2, none⟩ = false := hfr22 2; clear hcl22 hcc22 hfr22 hM22; (try rw [show ((6 : Int)).toNat = 6 from rfl] at hx22_0); (try simp only [Nat.reduceMul, Nat.zero_mul, Nat.zero_add, Nat.reduceAdd] at hx22_0); (try rw [show ((6 : Int)).toNat = 6 from rfl] at hf22_0); (try simp only [Nat.reduceMul, Nat.zero_mul, Nat.zero_add, Nat.reduceAdd] at hf22_0); (try rw [show ((6 : Int)).toNat = 6 from rfl] at hx22_1); (try simp only [Nat.reduceMul, Nat.zero_mul, Nat.zero_add, Nat.reduceAdd] at hx22_1); (try rw [show ((6 : Int)).toNat = 6 from rfl] at hf22_1); (try simp only [Nat.reduceMul, Nat.zero_mul, Nat.zero_add, Nat.reduceAdd] at hf22_1); (try rw [show ((6 : Int)).toNat = 6 from rfl] at hx22_2); (try simp only [Nat.reduceMul, Nat.zero_mul, Nat.zero_add, Nat.reduceAdd] at hx22_2); (try rw [show ((6 : Int)).toNat = 6 from rfl] at hf22_2); (try simp only [Nat.reduceMul, Nat.zero_mul, Nat.zero_add, Nat.reduceAdd] at hf22_2); replace p22 := eq_true p22; replace q22 := eq_true q22; have HX49 := as_ (show Kd.R k23 23 w47 w.heap.size (fun k_ => k_ ≠ gb269) (.slice (some ⟨go7, 0, none⟩) y277.length co7) y288 from (by (with_reducible repeat (first | apply Kd.R_alloc | apply Kd.R_drewN | apply Kd.R_drew)); exact HO279.out)); obtain ⟨ce49, hcl49, hM49, hcc49, hfr49⟩ := Kd.R_elem HX49.out z23 (6 : Int) (by omega) (by have h_ : (6 : Int) < ((y277.length : Int) : Int) := of_decide_eq_true aM; first | exact h_ | (have e_ := (Kd.R_reads' HO279.out).1; omega) | simpa using h_); obtain rfl := k23_openM hM49; have HP49 := Kd.R_seg HX49.out (6 : Int) (by omega) (by have h_ : (6 : Int) < ((y277.length : Int) : Int) := of_decide_eq_true aM; first | exact h_ | (have e_ := (Kd.R_reads' HO279.out).1; omega) | simpa using h_) (seg := [.int .i64 (wrap64 ((Int.tmod t270 4095) + 1))]) (j := 1) hcl49 hcc49 (show 2 ≤ 3 from by decide) (x' := (⟨(rd_T23 y288 6).f0, wrap64 ((Int.tmod t270 4095) + 1), (rd_T23 y288 6).f2⟩ : S23)) (k23_mkM _ _ _ (⟨(rd_T23 y288 6).f0, wrap64 ((Int.tmod t270 4095) + 1), (rd_T23 y288 6).f2⟩ : S23) ) (fun _ hk => hk); have hx49_1 := hcc49 1 _ rfl; (try simp only [show (k23).sz = 3 from rfl, Nat.mul_one, Nat.add_zero] at hx49_1); (try rw [show ((6 : Int)).toNat = 6 from rfl] at hx49_1); (try simp only [Nat.reduceMul, Nat.zero_mul, Nat.zero_add, Nat.reduceAdd] at hx49_1); have hf49_1 := hfr49 1; (try simp only [show (k23).sz = 3 from rfl, Nat.mul_one, Nat.add_zero] at hf49_1); (try rw [show ((6 : Int)).toNat = 6 from rfl] at hf49_1); (try simp only [Nat.reduceMul, Nat.zero_mul, Nat.zero_add, Nat.reduceAdd] at hf49_1); clear hcl49 hcc49 hfr49 hM49) | ((with_reducible refine gate_store (t := 3) (p := 71) rfl ?_); refine store_event (t := 3) (p := 71) (v := ?vo_w50) (w1 := (w47.setCell ⟨go7, 19, none⟩ (.int .i64 (wrap64 ((Int.tmod t270 4095) + 1))))) ?hg ?ho ?hn ?hr ?_; (case ho => rfl); (case hg => rfl); (case hn => rfl); (case hr => first | (go_simp; done) | (go_simp; rfl)); intro w50 hw; have hg : w47.grownBy w50 (some go7) := (by rw [hw]; exact HP49.2); have hp_ : Kd.R k23 23 w50 w.heap.size (fun k_ => k_ ≠ gb269) (.slice (some ⟨go7, 0, none⟩) y277.length co7) y289 := (by rw [hw, Ny289.out]; exact HP49.1); clear HP49; replace BK269 := as_ (blk_grown (g := gb269) (o := .cells #[.int .i64 t270, .int .i64 t271, .string t272] 23 (0, 0)) (bk BK269) hg (Kd.R_away HO279.out (fun _ hk => hk))); replace HO279 := as_ (hp_); replace HB := as_ ((by rw [hw]; exact below_set (HB.out) GB7.out : Below w.heap.size w w50)); clear hg hw hp_))
 go_loopg [8] k (fun kq v8 w' => ∃ (x8_1 : Int), v8 = .int .i64 x8_1 ∧ Aside0 (withylaw12_ChainEach.l0 kq a1 y289 x8_1 = some r) ∧ Aside0 (kq ≤ k) ∧ Aside0 (Kd.R k23 23 w' w.heap.size (fun k_ => k_ ≠ gb269) (.slice (some ⟨go7, 0, none⟩) y277.length co7) y289) ∧ Aside0 (w'.heap[gb269]? = some (.cells #[.int .i64 t270, .int .i64 t271, .string t272] 23 (0, 0))) ∧ Aside0 (Below w.heap.size w w'))
 case atStart => exact ⟨(0), (by first | rfl | (simp; done) | (simp [*]; done)), H', ⟨Nat.le_refl _⟩, ⟨by (with_reducible repeat (first | apply Kd.R_alloc | apply Kd.R_drewN | apply Kd.R_drew)); exact HO279.out⟩, ⟨by refine bx ?_; exact BK269.out⟩, ⟨by repeat (first | (with_reducible first | exact HB.out | apply below_alloc | apply pw_below_drewN | apply below_drew1 | refine below_set ?_ GE269.out) | exact HB.out)⟩⟩
 case round =>
  clear H'
  try clear c1
  try clear p1
  try clear q1
  try clear hx1
  try clear qi1
  try clear c2
  try clear p2
  try clear q2
  try clear hx2
  try clear qi2
  try clear hf2
  try clear c3
  try clear hx3
  try clear hf3
  try clear c4
  try clear hx4
  try clear hf4
  try clear c5
  try clear c6
  try clear c6b0
  try clear c6b1
  try clear p6
  try clear c7
  try clear p7
  try clear q7
  try clear hx7
  try clear qi7
  try clear hf7
  try clear c8
  try clear c8b0
  try clear c8b1
  try clear c9
  try clear p9
  try clear q9
  try clear hx9
  try clear qi9
  try clear hf9
  try clear c10
  try clear c10b0
  try clear c10b1
  try clear c11
  try clear p11
  try clear q11
  try clear hx11
  try clear qi11
  try clear hf11
  try clear c12
  try clear c12b0
  try clear c12b1
  try clear c13
  try clear p13
  try clear q13
  try clear hx13
  try clear qi13
  try clear hf13
  try clear c14
  try clear c14b0
  try clear c14b1
  try clear c15
  try clear p15
  try clear q15
  try clear hx15
  try clear qi15
  try clear hf15
  try clear c16
  try clear c17
  try clear c17b0
  try clear c17b1
  try clear c18
  try clear p18
  try clear q18
  try clear hx18
  try clear qi18
  try clear hf18
  try clear c20
  try clear c20b0
  try clear c20b1
  try clear c21
  try clear p21
  try clear q21
  try clear hx21
  try clear qi21
  try clear hf21
  try clear c22
  try clear p22
  try clear q22
  try clear hx22
  try clear qi22
  try clear hf22
  try clear c31
  try clear hx31
  try clear hf31
  try clear c33
  try clear hx33
  try clear hf33
  try clear c35
  try clear hx35
  try clear hf35
  try clear c38
  try clear hx38
  try clear hf38
  try clear c40
  try clear hx40
  try clear hf40
  try clear c43
  try clear hx43
  try clear hf43
  try clear c46
  try clear hx46
  try clear hf46
  try clear c49
  try clear hx49
  try clear hf49
  try clear hcz24_0
  try clear hcz24_1
  try clear hcz24_2
  try clear hcz26_0
  try clear hcz26_1
  try clear hcz26_2
  try clear hcz28_0
  try clear hcz28_1
  try clear hcz28_2
  try clear hcz37_0
  try clear hcz37_1
  try clear hcz37_2
  try clear hcz48_0
  try clear hcz48_1
  try clear hcz48_2
  try clear hfz24_0
  try clear hfz24_1
  try clear hfz24_2
  try clear hfz26_0
  try clear hfz26_1
  try clear hfz26_2
  try clear hfz28_0
  try clear hfz28_1
  try clear hfz28_2
  try clear hfz37_0
  try clear hfz37_1
  try clear hfz37_2
  try clear hfz48_0
  try clear hfz48_1
  try clear hfz48_2
  try clear hx11_0
  try clear hx11_1
  try clear hx11_2
  try clear hx13_0
  try clear hx13_1
  try clear hx13_2
  try clear hx15_0
  try clear hx15_1
  try clear hx15_2
  try clear hx18_0
  try clear hx18_1
  try clear hx18_2
  try clear hx21_0
  try clear hx21_1
  try clear hx21_2
  try clear hx22_0
  try clear hx22_1
  try clear hx22_2
  try clear hx31_0
  try clear hx33_0
  try clear hx35_1
  try clear hx38_1
  try clear hx40_2
  try clear hx43_2
  try clear hx46_2
  try clear hx49_1
  try clear hx7_0
  try clear hx7_1
  try clear hx7_2
  try clear hx9_0
  try clear hx9_1
  try clear hx9_2
  try clear p11
  try clear p13
  try clear p15
  try clear p18
  try clear p21
  try clear p22
  try clear p7
  try clear p9
  try clear q11
  try clear q13
  try clear q15
  try clear q18
  try clear q21
  try clear q22
  try clear q7
  try clear q9
  obtain ⟨x8_1, rfl, HA, HK1, HO_7, BK269, HB⟩ := hrel
  have hl7_1 := (Kd.R_reads' HO_7.out).1
  rw [hl7_1] at HO_7
  (try simp only [hl7_1])
  (try simp only [hl7_1] at BK269)
  cases gk with
  | zero => exact absurd HA.out (by simp [withylaw12_ChainEach.l0])
  | succ k1 =>
   have H := HA.out
   clear HA
   simp only [withylaw12_ChainEach.l0] at H
   by_cases c51 : x8_1 < (y289.length : Int)
   rotate_left
   ·rw [if_neg c51] at H
    have c51b0 : decide (x8_1 < (y289.length : Int)) = false := decide_eq_false c51
    clear c51
    replace H := bM H
    obtain ⟨t290, A600, H⟩ := H
    replace H : (if t290 = true then ((withylaw12_fixed.f k1).bind fun t291 => (some t291)) else (none)) = some r := H
    have A60 := Aside0.mk A600
    clear A600
    by_cases c61 : t290 = true
    rotate_left
    ·replace c61 := Bool.eq_false_iff.mpr c61
     subst c61
     have H1 : (none) = some r := by rw [if_neg (show ¬ (false = true) by decide)] at H; exact H
     clear H
     have H := H1
     clear H1
     exact absurd H (by simp)
    subst c61
    have H1 : ((withylaw12_fixed.f k1).bind fun t291 => (some t291)) = some r := by rw [if_pos rfl] at H; exact H
    clear H
    have H := H1
    clear H1
    replace H := bM H
    obtain ⟨t291, A620, H⟩ := H
    replace H : (some t291) = some r := H
    have A62 := Aside0.mk A620
    clear A620
    obtain rfl := Option.some.inj H
    go_wp2_with (first | ((with_reducible refine gate_callee (f := 13) rfl ?_); refine goesL_ (some 102) rfl rfl Tryd.func13 (by kernel_rfl) rfl #[.int .i64 a1] rfl aO ?_; (with_reducible refine (withyref06_Size.calls a1 true _ A60.out).mono ?_); rintro e w' ⟨rfl, ⟨nd, rfl⟩⟩; refine ⟨_, rfl, ?_⟩) | (go_at_call 12; (with_reducible refine (withylaw12_fixed.calls k1  t291 _ A62.out).mono ?_); rintro e w63 ⟨rfl, hb⟩; replace HO_7 := as_ (Kd.R_below (by (with_reducible repeat (first | apply Kd.R_alloc | apply Kd.R_drewN | apply Kd.R_drew)); exact HO_7.out) hb); replace BK269 := bb BK269 hb; replace HB := as_ (below_step bA hb); (try clear hb); (try clear hb2); (try clear hk); (try clear hi)))
    go_ret
    exact ⟨eW, by repeat (first | (with_reducible first | exact HB.out | apply below_alloc | apply pw_below_drewN | apply below_drew1 | refine below_set ?_ GE269.out) | exact HB.out)⟩
   rw [if_pos c51] at H
   have c51b0 : decide (x8_1 < (y289.length : Int)) = true := decide_eq_true c51
   clear c51
   by_cases c52 : 0 ≤ x8_1
   rotate_left
   ·rw [if_neg c52] at H
    exact absurd H (by simp)
   rw [if_pos c52] at H
   have c52b0 : decide (0 ≤ x8_1) = true := decide_eq_true c52
   clear c52
   replace H := bM H
   obtain ⟨⟨t293, t294⟩, A530, H⟩ := H
   replace H : (if t294 = 3 then (if t293.toList = ([] : List UInt8) then ((chain_May.f ((rd_T23 y289 x8_1).f0) ((rd_T23 y289 x8_1).f1) ((rd_T23 y289 x8_1).f2) a1).bind fun t296 => (if t296 = true then (none) else (withylaw12_ChainEach.l0 k1 a1 y289 (wrap64 (x8_1 + 1))))) else (none)) else (none)) = some r := H
   have A53 := Aside0.mk A530
   clear A530
   by_cases c54 : t294 = 3
   rotate_left
   ·rw [if_neg c54] at H
    exact absurd H (by simp)
   rw [if_pos c54] at H
   have c54b0 : (t294 == 3) = true := beq_iff_eq.mpr c54
   have c54b1 : (t294 != 3) = false := bne_eq_false_iff_eq.mpr c54
   clear c54
   by_cases c55 : t293.toList = ([] : List UInt8)
   rotate_left
   ·rw [if_neg c55] at H
    exact absurd H (by simp)
   rw [if_pos c55] at H
   have c55b0 : (t293.toList == ([] : List UInt8)) = true := beq_iff_eq.mpr c55
   have c55b1 : (t293.toList != ([] : List UInt8)) = false := bne_eq_false_iff_eq.mpr c55
   clear c55
   replace H := bM H
   obtain ⟨t296, A560, H⟩ := H
   replace H : (if t296 = true then (none) else (withylaw12_ChainEach.l0 k1 a1 y289 (wrap64 (x8_1 + 1)))) = some r := H
   have A56 := Aside0.mk A560
   clear A560
   by_cases c57 : t296 = true
   ·subst c57
    have H1 : (none) = some r := by rw [if_pos rfl] at H; exact H
    clear H
    have H := H1
    clear H1
    exact absurd H (by simp)
   replace c57 := Bool.eq_false_iff.mpr c57
   subst c57
   have H1 : (withylaw12_ChainEach.l0 k1 a1 y289 (wrap64 (x8_1 + 1))) = some r := by rw [if_neg (show ¬ (false = true) by decide)] at H; exact H
   clear H
   have H := H1
   clear H1
   have H' := Aside0.mk H
   clear H
   have p292 : 0 ≤ (x8_1 : Int) := of_decide_eq_true aM
   have q292 : x8_1 < (y289.length : Int) := of_decide_eq_true aM
   obtain ⟨ad292, e292, hx292_0, hx292_1, hx292_2⟩ := at_T23 (Kd.R_reads' HO_7.out).2.2 x8_1 p292 q292
   obtain rfl : (⟨go7, 0, none⟩ : Addr) = ad292 := (by injection e292)
   (first | simp only [add_plain] at hx292_0 | simp only [add_at] at hx292_0 | simp only [Addr.add, Nat.zero_add] at hx292_0 | skip)
   (first | simp only [add_plain] at hx292_1 | simp only [add_at] at hx292_1 | simp only [Addr.add, Nat.zero_add] at hx292_1 | skip)
   (first | simp only [add_plain] at hx292_2 | simp only [add_at] at hx292_2 | simp only [Addr.add, Nat.zero_add] at hx292_2 | skip)
   replace p292 := eq_true p292
   replace q292 := eq_true q292
   go_wp2_with (first | ((with_reducible refine gate_callee (f := 9) rfl ?_); refine goesL_ (some 84) rfl rfl Tryd.func9 (by kernel_rfl) rfl #[.agg #[.int .i64 ((rd_T23 y289 x8_1).f0), .int .i64 ((rd_T23 y289 x8_1).f1), .string ((rd_T23 y289 x8_1).f2)], .int .i64 a1] rfl aO ?_; (with_reducible refine (chain_Encode.calls k1 ((rd_T23 y289 x8_1).f0) ((rd_T23 y289 x8_1).f1) ((rd_T23 y289 x8_1).f2) a1 t293 t294 _ A53.out).mono ?_); rintro e w58 ⟨rfl, hb⟩; refine ⟨_, rfl, ?_⟩; replace HO_7 := as_ (Kd.R_below (by (with_reducible repeat (first | apply Kd.R_alloc | apply Kd.R_drewN | apply Kd.R_drew)); exact HO_7.out) hb); replace BK269 := bb BK269 hb; replace HB := as_ (below_step bA hb); (try clear hb); (try clear hb2); (try clear hk); (try clear hi); have p295 : 0 ≤ (x8_1 : Int) := of_decide_eq_true aM; have q295 : x8_1 < (y289.length : Int) := of_decide_eq_true aM; obtain ⟨ad295, e295, hx295_0, hx295_1, hx295_2⟩ := at_T23 (Kd.R_reads' HO_7.out).2.2 x8_1 p295 q295; obtain rfl : (⟨go7, 0, none⟩ : Addr) = ad295 := (by injection e295); (first | simp only [add_plain] at hx295_0 | simp only [add_at] at hx295_0 | simp only [Addr.add, Nat.zero_add] at hx295_0 | skip); (first | simp only [add_plain] at hx295_1 | simp only [add_at] at hx295_1 | simp only [Addr.add, Nat.zero_add] at hx295_1 | skip); (first | simp only [add_plain] at hx295_2 | simp only [add_at] at hx295_2 | simp only [Addr.add, Nat.zero_add] at hx295_2 | skip); replace p295 := eq_true p295; replace q295 := eq_true q295) | (go_at_call 10; (with_reducible refine (chain_May.calls ((rd_T23 y289 x8_1).f0) ((rd_T23 y289 x8_1).f1) ((rd_T23 y289 x8_1).f2) a1 false _ A56.out).mono ?_); rintro e w59 ⟨rfl, hb⟩; replace HO_7 := as_ (Kd.R_below (by (with_reducible repeat (first | apply Kd.R_alloc | apply Kd.R_drewN | apply Kd.R_drew)); exact HO_7.out) hb); replace BK269 := bb BK269 hb; replace HB := as_ (below_step bA hb); (try clear hb); (try clear hb2); (try clear hk); (try clear hi)))
   (try simp only [← hl7_1])
   go_roundg k1
   case measure => have := HK1.out; omega
   case rel => exact ⟨(wrap64 (x8_1 + 1)), (by first | rfl | (simp; done) | (simp [*]; done)), H', ⟨by have := HK1.out; omega⟩, ⟨by (try simp only [hl7_1]); (with_reducible repeat (first | apply Kd.R_alloc | apply Kd.R_drewN | apply Kd.R_drew)); exact HO_7.out⟩, ⟨by (try simp only [hl7_1]); refine bx ?_; exact BK269.out⟩, ⟨by repeat (first | (with_reducible first | exact HB.out | apply below_alloc | apply pw_below_drewN | apply below_drew1 | refine below_set ?_ GE269.out) | exact HB.out)⟩⟩
/-! ### withylaw12_ChainLast: function 7 -/
def withylaw12_ChainLast.f (k : Nat) (a0 : Int) (a1 : Int) (a2_0 : Int) (a2_1 : Int) : Option (Bool) := (withyref06_Size.f a0).bind fun t298 => (if t298 = true then (if (wrap64 (a0 + 2)) = 0 then (none) else ((withyref01_Repeat.f k 5 (Int.tmod (wrap64 (a1)) (wrap64 (a0 + 2)))).bind fun t301 => ((chain_May.f (wrap64 (1 + (Int.tmod (wrap64 (a2_0)) 4095))) 0 t301 a0).bind fun t302 => ((chain_May.f (wrap64 (1 + (Int.tmod (wrap64 (a2_0)) 4095))) (wrap64 (1 + (Int.tmod (wrap64 (a2_1)) 4095))) t301 a0).bind fun t303 => (if (Int.tmod (wrap64 (a1)) (wrap64 (a0 + 2))) ≥ 1 then (if (t302 == (decide ((Int.tmod (wrap64 (a1)) (wrap64 (a0 + 2))) ≤ (wrap64 (a0 - 16))))) = true then (if (Int.tmod (wrap64 (a1)) (wrap64 (a0 + 2))) = (wrap64 (a0 - 16)) then (if (t303 == ((wrap64 (1 + (Int.tmod (wrap64 (a2_0)) 4095))) != (wrap64 (1 + (Int.tmod (wrap64 (a2_1)) 4095))))) = true then ((withylaw12_fixed.f k).bind fun t304 => (some t304)) else (none)) else (if (t303 == false) = true then ((withylaw12_fixed.f k).bind fun t305 => (some t305)) else (none))) else (none)) else (if (t302 == false) = true then (if (Int.tmod (wrap64 (a1)) (wrap64 (a0 + 2))) = (wrap64 (a0 - 16)) then (if (t303 == ((wrap64 (1 + (Int.tmod (wrap64 (a2_0)) 4095))) != (wrap64 (1 + (Int.tmod (wrap64 (a2_1)) 4095))))) = true then ((withylaw12_fixed.f k).bind fun t306 => (some t306)) else (none)) else (if (t303 == false) = true then ((withylaw12_fixed.f k).bind fun t307 => (some t307)) else (none))) else (none))))))) else ((chain_May.f 1 0 (⟨#[120]⟩ : ByteArray) a0).bind fun t299 => (if t299 = true then (none) else ((withylaw12_fixed.f k).bind fun t300 => (some t300)))))
theorem withylaw12_ChainLast.mono : ∀ a0 a1 a2 a3 k, LeO (withylaw12_ChainLast.f k a0 a1 a2 a3) (withylaw12_ChainLast.f (k + 1) a0 a1 a2 a3) := by
 intro a0 a1 a2 a3 k
 unfold withylaw12_ChainLast.f
 repeat' first
   | (with_reducible exact withylaw12_fixed.mono _)
   | (with_reducible exact withyref01_Repeat.mono _ _ _)
   | (with_reducible exact LeO.refl _)
   | (with_reducible exact LeO.none _)
   | (with_reducible refine LeO.ite ?_ ?_)
   | (with_reducible refine LeO.bind ?_ (fun _ => ?_))
   | exact withylaw12_fixed.mono _
   | exact withyref01_Repeat.mono _ _ _
   | exact LeO.none _
   | refine LeO.ite ?_ ?_
   | refine LeO.bind ?_ (fun _ => ?_)
set_option maxHeartbeats 8000000 in
set_option maxRecDepth 100000 in
theorem withylaw12_ChainLast.calls (k : Nat) (a0 : Int) (a1 : Int) (a2_0 : Int) (a2_1 : Int) (r : Bool) (w : World) (h : withylaw12_ChainLast.f k a0 a1 a2_0 a2_1 = some r) :
  Calls Tryd.prog 7 #[.int .i64 a0, .int .u16 a1, .agg #[.int .u16 a2_0, .int .u16 a2_1]] w fun e w' => e = .returned (.bool r) ∧ Below w.heap.size w w' := by
 have hu43 := Tryd.underlying43
 have hu23 := Tryd.underlying23
 have HB := as_ (Below.refl w.heap.size w)
 have H : ((withyref06_Size.f a0).bind fun t298 => (if t298 = true then (if (wrap64 (a0 + 2)) = 0 then (none) else ((withyref01_Repeat.f k 5 (Int.tmod (wrap64 (a1)) (wrap64 (a0 + 2)))).bind fun t301 => ((chain_May.f (wrap64 (1 + (Int.tmod (wrap64 (a2_0)) 4095))) 0 t301 a0).bind fun t302 => ((chain_May.f (wrap64 (1 + (Int.tmod (wrap64 (a2_0)) 4095))) (wrap64 (1 + (Int.tmod (wrap64 (a2_1)) 4095))) t301 a0).bind fun t303 => (if (Int.tmod (wrap64 (a1)) (wrap64 (a0 + 2))) ≥ 1 then (if (t302 == (decide ((Int.tmod (wrap64 (a1)) (wrap64 (a0 + 2))) ≤ (wrap64 (a0 - 16))))) = true then (if (Int.tmod (wrap64 (a1)) (wrap64 (a0 + 2))) = (wrap64 (a0 - 16)) then (if (t303 == ((wrap64 (1 + (Int.tmod (wrap64 (a2_0)) 4095))) != (wrap64 (1 + (Int.tmod (wrap64 (a2_1)) 4095))))) = true then ((withylaw12_fixed.f k).bind fun t304 => (some t304)) else (none)) else (if (t303 == false) = true then ((withylaw12_fixed.f k).bind fun t305 => (some t305)) else (none))) else (none)) else (if (t302 == false) = true then (if (Int.tmod (wrap64 (a1)) (wrap64 (a0 + 2))) = (wrap64 (a0 - 16)) then (if (t303 == ((wrap64 (1 + (Int.tmod (wrap64 (a2_0)) 4095))) != (wrap64 (1 + (Int.tmod (wrap64 (a2_1)) 4095))))) = true then ((withylaw12_fixed.f k).bind fun t306 => (some t306)) else (none)) else (if (t303 == false) = true then ((withylaw12_fixed.f k).bind fun t307 => (some t307)) else (none))) else (none))))))) else ((chain_May.f 1 0 (⟨#[120]⟩ : ByteArray) a0).bind fun t299 => (if t299 = true then (none) else ((withylaw12_fixed.f k).bind fun t300 => (some t300)))))) = some r := h
 clear h
 replace H := bM H
 obtain ⟨t298, A40, H⟩ := H
 replace H : (if t298 = true then (if (wrap64 (a0 + 2)) = 0 then (none) else ((withyref01_Repeat.f k 5 (Int.tmod (wrap64 (a1)) (wrap64 (a0 + 2)))).bind fun t301 => ((chain_May.f (wrap64 (1 + (Int.tmod (wrap64 (a2_0)) 4095))) 0 t301 a0).bind fun t302 => ((chain_May.f (wrap64 (1 + (Int.tmod (wrap64 (a2_0)) 4095))) (wrap64 (1 + (Int.tmod (wrap64 (a2_1)) 4095))) t301 a0).bind fun t303 => (if (Int.tmod (wrap64 (a1)) (wrap64 (a0 + 2))) ≥ 1 then (if (t302 == (decide ((Int.tmod (wrap64 (a1)) (wrap64 (a0 + 2))) ≤ (wrap64 (a0 - 16))))) = true then (if (Int.tmod (wrap64 (a1)) (wrap64 (a0 + 2))) = (wrap64 (a0 - 16)) then (if (t303 == ((wrap64 (1 + (Int.tmod (wrap64 (a2_0)) 4095))) != (wrap64 (1 + (Int.tmod (wrap64 (a2_1)) 4095))))) = true then ((withylaw12_fixed.f k).bind fun t304 => (some t304)) else (none)) else (if (t303 == false) = true then ((withylaw12_fixed.f k).bind fun t305 => (some t305)) else (none))) else (none)) else (if (t302 == false) = true then (if (Int.tmod (wrap64 (a1)) (wrap64 (a0 + 2))) = (wrap64 (a0 - 16)) then (if (t303 == ((wrap64 (1 + (Int.tmod (wrap64 (a2_0)) 4095))) != (wrap64 (1 + (Int.tmod (wrap64 (a2_1)) 4095))))) = true then ((withylaw12_fixed.f k).bind fun t306 => (some t306)) else (none)) else (if (t303 == false) = true then ((withylaw12_fixed.f k).bind fun t307 => (some t307)) else (none))) else (none))))))) else ((chain_May.f 1 0 (⟨#[120]⟩ : ByteArray) a0).bind fun t299 => (if t299 = true then (none) else ((withylaw12_fixed.f k).bind fun t300 => (some t300))))) = some r := H
 have A4 := Aside0.mk A40
 clear A40
 by_cases c5 : t298 = true
 rotate_left
 ·replace c5 := Bool.eq_false_iff.mpr c5
  subst c5
  have H1 : ((chain_May.f 1 0 (⟨#[120]⟩ : ByteArray) a0).bind fun t299 => (if t299 = true then (none) else ((withylaw12_fixed.f k).bind fun t300 => (some t300)))) = some r := by rw [if_neg (show ¬ (false = true) by decide)] at H; exact H
  clear H
  have H := H1
  clear H1
  replace H := bM H
  obtain ⟨t299, A470, H⟩ := H
  replace H : (if t299 = true then (none) else ((withylaw12_fixed.f k).bind fun t300 => (some t300))) = some r := H
  have A47 := Aside0.mk A470
  clear A470
  by_cases c48 : t299 = true
  ·subst c48
   have H1 : (none) = some r := by rw [if_pos rfl] at H; exact H
   clear H
   have H := H1
   clear H1
   exact absurd H (by simp)
  replace c48 := Bool.eq_false_iff.mpr c48
  subst c48
  have H1 : ((withylaw12_fixed.f k).bind fun t300 => (some t300)) = some r := by rw [if_neg (show ¬ (false = true) by decide)] at H; exact H
  clear H
  have H := H1
  clear H1
  replace H := bM H
  obtain ⟨t300, A490, H⟩ := H
  replace H : (some t300) = some r := H
  have A49 := Aside0.mk A490
  clear A490
  obtain rfl := Option.some.inj H
  go_enter Tryd.func7, Tryd.ntmps7
  go_wp2_with (first | ((with_reducible refine gate_dst (N := 5) rfl ?_); refine box_event (by rfl) (N := 5) (by rfl) (cs := #[.int .u16 a2_0, .int .u16 a2_1]) (t := 43) gS ?_; intro gb297 hg w50 hbox hb; have BK297 := as_ (hbox); have GW297 := gw hg bA; have GE297 := gw hg bA; replace HB := as_ (below_step bA hb); clear hb hbox hg) | (go_at_call 13; (with_reducible refine (withyref06_Size.calls a0 false _ A4.out).mono ?_); rintro e w' ⟨rfl, ⟨nd, rfl⟩⟩; (try first | exact ⟨rfl, _, World.drewN_drewN _ _ _⟩ | exact ⟨rfl, _, Eq.trans (World.drewN_drewN _ _ _) (congrArg (World.drewN _) (Nat.add_assoc _ _ _))⟩)) | (go_at_call 10; (with_reducible refine (chain_May.calls 1 0 (⟨#[120]⟩ : ByteArray) a0 false _ A47.out).mono ?_); rintro e w51 ⟨rfl, hb⟩; replace BK297 := bb BK297 hb; replace HB := as_ (below_step bA hb); (try clear hb); (try clear hb2); (try clear hk); (try clear hi)) | (go_at_call 12; (with_reducible refine (withylaw12_fixed.calls k  t300 _ A49.out).mono ?_); rintro e w52 ⟨rfl, hb⟩; replace BK297 := bb BK297 hb; replace HB := as_ (below_step bA hb); (try clear hb); (try clear hb2); (try clear hk); (try clear hi)))
  repeat (go_quiet (first | ((with_reducible refine gate_dst (N := 5) rfl ?_); refine box_event (by rfl) (N := 5) (by rfl) (cs := #[.int .u16 a2_0, .int .u16 a2_1]) (t := 43) gS ?_; intro gb297 hg w50 hbox hb; have BK297 := as_ (hbox); have GW297 := gw hg bA; have GE297 := gw hg bA; replace HB := as_ (below_step bA hb); clear hb hbox hg) | (go_at_call 13; (with_reducible refine (withyref06_Size.calls a0 false _ A4.out).mono ?_); rintro e w' ⟨rfl, ⟨nd, rfl⟩⟩; (try first | exact ⟨rfl, _, World.drewN_drewN _ _ _⟩ | exact ⟨rfl, _, Eq.trans (World.drewN_drewN _ _ _) (congrArg (World.drewN _) (Nat.add_assoc _ _ _))⟩)) | (go_at_call 10; (with_reducible refine (chain_May.calls 1 0 (⟨#[120]⟩ : ByteArray) a0 false _ A47.out).mono ?_); rintro e w51 ⟨rfl, hb⟩; replace BK297 := bb BK297 hb; replace HB := as_ (below_step bA hb); (try clear hb); (try clear hb2); (try clear hk); (try clear hi)) | (go_at_call 12; (with_reducible refine (withylaw12_fixed.calls k  t300 _ A49.out).mono ?_); rintro e w52 ⟨rfl, hb⟩; replace BK297 := bb BK297 hb; replace HB := as_ (below_step bA hb); (try clear hb); (try clear hb2); (try clear hk); (try clear hi))); try go_wp2_with (first | ((with_reducible refine gate_dst (N := 5) rfl ?_); refine box_event (by rfl) (N := 5) (by rfl) (cs := #[.int .u16 a2_0, .int .u16 a2_1]) (t := 43) gS ?_; intro gb297 hg w50 hbox hb; have BK297 := as_ (hbox); have GW297 := gw hg bA; have GE297 := gw hg bA; replace HB := as_ (below_step bA hb); clear hb hbox hg) | (go_at_call 13; (with_reducible refine (withyref06_Size.calls a0 false _ A4.out).mono ?_); rintro e w' ⟨rfl, ⟨nd, rfl⟩⟩; (try first | exact ⟨rfl, _, World.drewN_drewN _ _ _⟩ | exact ⟨rfl, _, Eq.trans (World.drewN_drewN _ _ _) (congrArg (World.drewN _) (Nat.add_assoc _ _ _))⟩)) | (go_at_call 10; (with_reducible refine (chain_May.calls 1 0 (⟨#[120]⟩ : ByteArray) a0 false _ A47.out).mono ?_); rintro e w51 ⟨rfl, hb⟩; replace BK297 := bb BK297 hb; replace HB := as_ (below_step bA hb); (try clear hb); (try clear hb2); (try clear hk); (try clear hi)) | (go_at_call 12; (with_reducible refine (withylaw12_fixed.calls k  t300 _ A49.out).mono ?_); rintro e w52 ⟨rfl, hb⟩; replace BK297 := bb BK297 hb; replace HB := as_ (below_step bA hb); (try clear hb); (try clear hb2); (try clear hk); (try clear hi))))
  go_ret
  exact ⟨eW, by repeat (first | (with_reducible first | exact HB.out | apply below_alloc | apply pw_below_drewN | apply below_drew1 | refine below_set ?_ GE297.out) | exact HB.out)⟩
 
 subst c5
 have H1 : (if (wrap64 (a0 + 2)) = 0 then (none) else ((withyref01_Repeat.f k 5 (Int.tmod (wrap64 (a1)) (wrap64 (a0 + 2)))).bind fun t301 => ((chain_May.f (wrap64 (1 + (Int.tmod (wrap64 (a2_0)) 4095))) 0 t301 a0).bind fun t302 => ((chain_May.f (wrap64 (1 + (Int.tmod (wrap64 (a2_0)) 4095))) (wrap64 (1 + (Int.tmod (wrap64 (a2_1)) 4095))) t301 a0).bind fun t303 => (if (Int.tmod (wrap64 (a1)) (wrap64 (a0 + 2))) ≥ 1 then (if (t302 == (decide ((Int.tmod (wrap64 (a1)) (wrap64 (a0 + 2))) ≤ (wrap64 (a0 - 16))))) = true then (if (Int.tmod (wrap64 (a1)) (wrap64 (a0 + 2))) = (wrap64 (a0 - 16)) then (if (t303 == ((wrap64 (1 + (Int.tmod (wrap64 (a2_0)) 4095))) != (wrap64 (1 + (Int.tmod (wrap64 (a2_1)) 4095))))) = true then ((withylaw12_fixed.f k).bind fun t304 => (some t304)) else (none)) else (if (t303 == false) = true then ((withylaw12_fixed.f k).bind fun t305 => (some t305)) else (none))) else (none)) else (if (t302 == false) = true then (if (Int.tmod (wrap64 (a1)) (wrap64 (a0 + 2))) = (wrap64 (a0 - 16)) then (if (t303 == ((wrap64 (1 + (Int.tmod (wrap64 (a2_0)) 4095))) != (wrap64 (1 + (Int.tmod (wrap64 (a2_1)) 4095))))) = true then ((withylaw12_fixed.f k).bind fun t306 => (some t306)) else (none)) else (if (t303 == false) = true then ((withylaw12_fixed.f k).bind fun t307 => (some t307)) else (none))) else (none))))))) = some r := by rw [if_pos rfl] at H; exact H
 clear H
 have H := H1
 clear H1
 by_cases c6 : (wrap64 (a0 + 2)) = 0
 ·rw [if_pos c6] at H
  exact absurd H (by simp)
 rw [if_neg c6] at H
 have c6b0 : ((wrap64 (a0 + 2)) == 0) = false := beq_eq_false_iff_ne.mpr c6
 have c6b1 : ((wrap64 (a0 + 2)) != 0) = true := bne_iff_ne.mpr c6
 replace H := bM H
 obtain ⟨t301, A70, H⟩ := H
 replace H : ((chain_May.f (wrap64 (1 + (Int.tmod (wrap64 (a2_0)) 4095))) 0 t301 a0).bind fun t302 => ((chain_May.f (wrap64 (1 + (Int.tmod (wrap64 (a2_0)) 4095))) (wrap64 (1 + (Int.tmod (wrap64 (a2_1)) 4095))) t301 a0).bind fun t303 => (if (Int.tmod (wrap64 (a1)) (wrap64 (a0 + 2))) ≥ 1 then (if (t302 == (decide ((Int.tmod (wrap64 (a1)) (wrap64 (a0 + 2))) ≤ (wrap64 (a0 - 16))))) = true then (if (Int.tmod (wrap64 (a1)) (wrap64 (a0 + 2))) = (wrap64 (a0 - 16)) then (if (t303 == ((wrap64 (1 + (Int.tmod (wrap64 (a2_0)) 4095))) != (wrap64 (1 + (Int.tmod (wrap64 (a2_1)) 4095))))) = true then ((withylaw12_fixed.f k).bind fun t304 => (some t304)) else (none)) else (if (t303 == false) = true then ((withylaw12_fixed.f k).bind fun t305 => (some t305)) else (none))) else (none)) else (if (t302 == false) = true then (if (Int.tmod (wrap64 (a1)) (wrap64 (a0 + 2))) = (wrap64 (a0 - 16)) then (if (t303 == ((wrap64 (1 + (Int.tmod (wrap64 (a2_0)) 4095))) != (wrap64 (1 + (Int.tmod (wrap64 (a2_1)) 4095))))) = true then ((withylaw12_fixed.f k).bind fun t306 => (some t306)) else (none)) else (if (t303 == false) = true then ((withylaw12_fixed.f k).bind fun t307 => (some t307)) else (none))) else (none))))) = some r := H
 have A7 := Aside0.mk A70
 clear A70
 replace H := bM H
 obtain ⟨t302, A80, H⟩ := H
 replace H : ((chain_May.f (wrap64 (1 + (Int.tmod (wrap64 (a2_0)) 4095))) (wrap64 (1 + (Int.tmod (wrap64 (a2_1)) 4095))) t301 a0).bind fun t303 => (if (Int.tmod (wrap64 (a1)) (wrap64 (a0 + 2))) ≥ 1 then (if (t302 == (decide ((Int.tmod (wrap64 (a1)) (wrap64 (a0 + 2))) ≤ (wrap64 (a0 - 16))))) = true then (if (Int.tmod (wrap64 (a1)) (wrap64 (a0 + 2))) = (wrap64 (a0 - 16)) then (if (t303 == ((wrap64 (1 + (Int.tmod (wrap64 (a2_0)) 4095))) != (wrap64 (1 + (Int.tmod (wrap64 (a2_1)) 4095))))) = true then ((withylaw12_fixed.f k).bind fun t304 => (some t304)) else (none)) else (if (t303 == false) = true then ((withylaw12_fixed.f k).bind fun t305 => (some t305)) else (none))) else (none)) else (if (t302 == false) = true then (if (Int.tmod (wrap64 (a1)) (wrap64 (a0 + 2))) = (wrap64 (a0 - 16)) then (if (t303 == ((wrap64 (1 + (Int.tmod (wrap64 (a2_0)) 4095))) != (wrap64 (1 + (Int.tmod (wrap64 (a2_1)) 4095))))) = true then ((withylaw12_fixed.f k).bind fun t306 => (some t306)) else (none)) else (if (t303 == false) = true then ((withylaw12_fixed.f k).bind fun t307 => (some t307)) else (none))) else (none)))) = some r := H
 have A8 := Aside0.mk A80
 clear A80
 replace H := bM H
 obtain ⟨t303, A90, H⟩ := H
 replace H : (if (Int.tmod (wrap64 (a1)) (wrap64 (a0 + 2))) ≥ 1 then (if (t302 == (decide ((Int.tmod (wrap64 (a1)) (wrap64 (a0 + 2))) ≤ (wrap64 (a0 - 16))))) = true then (if (Int.tmod (wrap64 (a1)) (wrap64 (a0 + 2))) = (wrap64 (a0 - 16)) then (if (t303 == ((wrap64 (1 + (Int.tmod (wrap64 (a2_0)) 4095))) != (wrap64 (1 + (Int.tmod (wrap64 (a2_1)) 4095))))) = true then ((withylaw12_fixed.f k).bind fun t304 => (some t304)) else (none)) else (if (t303 == false) = true then ((withylaw12_fixed.f k).bind fun t305 => (some t305)) else (none))) else (none)) else (if (t302 == false) = true then (if (Int.tmod (wrap64 (a1)) (wrap64 (a0 + 2))) = (wrap64 (a0 - 16)) then (if (t303 == ((wrap64 (1 + (Int.tmod (wrap64 (a2_0)) 4095))) != (wrap64 (1 + (Int.tmod (wrap64 (a2_1)) 4095))))) = true then ((withylaw12_fixed.f k).bind fun t306 => (some t306)) else (none)) else (if (t303 == false) = true then ((withylaw12_fixed.f k).bind fun t307 => (some t307)) else (none))) else (none))) = some r := H
 have A9 := Aside0.mk A90
 clear A90
 by_cases c10 : (Int.tmod (wrap64 (a1)) (wrap64 (a0 + 2))) ≥ 1
 rotate_left
 ·rw [if_neg c10] at H
  have c10b0 : decide (1 ≤ (Int.tmod (wrap64 (a1)) (wrap64 (a0 + 2)))) = false := decide_eq_false c10
  clear c10
  by_cases c29 : (t302 == false) = true
  rotate_left
  ·rw [if_neg c29] at H
   exact absurd H (by simp)
  rw [if_pos c29] at H
  have c29b0 : (t302 == false) = true := c29
  (try (have c29b1 : t302 = false := by simpa using c29))
  (try (have c29b2 : decide (t302 = false) = true := by simpa using c29))
  (try (have c29b3 : (t302 == false) = true := by simpa using c29))
  clear c29
  by_cases c30 : (Int.tmod (wrap64 (a1)) (wrap64 (a0 + 2))) = (wrap64 (a0 - 16))
  rotate_left
  ·rw [if_neg c30] at H
   have c30b0 : ((Int.tmod (wrap64 (a1)) (wrap64 (a0 + 2))) == (wrap64 (a0 - 16))) = false := beq_eq_false_iff_ne.mpr c30
   have c30b1 : ((Int.tmod (wrap64 (a1)) (wrap64 (a0 + 2))) != (wrap64 (a0 - 16))) = true := bne_iff_ne.mpr c30
   by_cases c39 : (t303 == false) = true
   rotate_left
   ·rw [if_neg c39] at H
    exact absurd H (by simp)
   rw [if_pos c39] at H
   have c39b0 : (t303 == false) = true := c39
   (try (have c39b1 : t303 = false := by simpa using c39))
   (try (have c39b2 : decide (t303 = false) = true := by simpa using c39))
   (try (have c39b3 : (t303 == false) = true := by simpa using c39))
   clear c39
   replace H := bM H
   obtain ⟨t307, A400, H⟩ := H
   replace H : (some t307) = some r := H
   have A40 := Aside0.mk A400
   clear A400
   obtain rfl := Option.some.inj H
   go_enter Tryd.func7, Tryd.ntmps7
   go_wp2_with (first | ((with_reducible refine gate_dst (N := 5) rfl ?_); refine box_event (by rfl) (N := 5) (by rfl) (cs := #[.int .u16 a2_0, .int .u16 a2_1]) (t := 43) gS ?_; intro gb297 hg w41 hbox hb; have BK297 := as_ (hbox); have GW297 := gw hg bA; have GE297 := gw hg bA; replace HB := as_ (below_step bA hb); clear hb hbox hg) | (go_at_call 13; (with_reducible refine (withyref06_Size.calls a0 true _ A4.out).mono ?_); rintro e w' ⟨rfl, ⟨nd, rfl⟩⟩; (try first | exact ⟨rfl, _, World.drewN_drewN _ _ _⟩ | exact ⟨rfl, _, Eq.trans (World.drewN_drewN _ _ _) (congrArg (World.drewN _) (Nat.add_assoc _ _ _))⟩); obtain ⟨hcz42_0, hcz42_1⟩ := zc2 BK297; obtain ⟨hfz42_0, hfz42_1⟩ := zf2 BK297) | (go_at_call 16; (first | (with_reducible refine (withyref01_Repeat.calls k 5 (Int.tmod (wrap64 (a1)) (wrap64 (a0 + 2))) t301 _ A7.out).mono ?_) | (with_reducible refine (withyref01_Repeat.calls k 5 (Int.tmod (a1) (a0 + 2)) t301 _ (by have e_ := A7.out; rwa [(by unfold wrap64; omega : wrap64 (a0 + 2) = (a0 + 2)), (by unfold wrap64; omega : wrap64 (a1) = (a1))] at e_)).mono ?_)); rintro e w43 ⟨rfl, hb⟩; replace BK297 := bb BK297 hb; replace HB := as_ (below_step bA hb); (try clear hb); (try clear hb2); (try clear hk); (try clear hi)) | (go_at_call 10; (with_reducible refine (chain_May.calls (wrap64 (1 + (Int.tmod (wrap64 (a2_0)) 4095))) 0 t301 a0 t302 _ A8.out).mono ?_); rintro e w44 ⟨rfl, hb⟩; replace BK297 := bb BK297 hb; replace HB := as_ (below_step bA hb); (try clear hb); (try clear hb2); (try clear hk); (try clear hi)) | (go_at_call 10; (with_reducible refine (chain_May.calls (wrap64 (1 + (Int.tmod (wrap64 (a2_0)) 4095))) (wrap64 (1 + (Int.tmod (wrap64 (a2_1)) 4095))) t301 a0 t303 _ A9.out).mono ?_); rintro e w45 ⟨rfl, hb⟩; replace BK297 := bb BK297 hb; replace HB := as_ (below_step bA hb); (try clear hb); (try clear hb2); (try clear hk); (try clear hi)) | (go_at_call 12; (with_reducible refine (withylaw12_fixed.calls k  t307 _ A40.out).mono ?_); rintro e w46 ⟨rfl, hb⟩; replace BK297 := bb BK297 hb; replace HB := as_ (below_step bA hb); (try clear hb); (try clear hb2); (try clear hk); (try clear hi)))
   repeat (go_quiet (first | ((with_reducible refine gate_dst (N := 5) rfl ?_); refine box_event (by rfl) (N := 5) (by rfl) (cs := #[.int .u16 a2_0, .int .u16 a2_1]) (t := 43) gS ?_; intro gb297 hg w41 hbox hb; have BK297 := as_ (hbox); have GW297 := gw hg bA; have GE297 := gw hg bA; replace HB := as_ (below_step bA hb); clear hb hbox hg) | (go_at_call 13; (with_reducible refine (withyref06_Size.calls a0 true _ A4.out).mono ?_); rintro e w' ⟨rfl, ⟨nd, rfl⟩⟩; (try first | exact ⟨rfl, _, World.drewN_drewN _ _ _⟩ | exact ⟨rfl, _, Eq.trans (World.drewN_drewN _ _ _) (congrArg (World.drewN _) (Nat.add_assoc _ _ _))⟩); obtain ⟨hcz42_0, hcz42_1⟩ := zc2 BK297; obtain ⟨hfz42_0, hfz42_1⟩ := zf2 BK297) | (go_at_call 16; (first | (with_reducible refine (withyref01_Repeat.calls k 5 (Int.tmod (wrap64 (a1)) (wrap64 (a0 + 2))) t301 _ A7.out).mono ?_) | (with_reducible refine (withyref01_Repeat.calls k 5 (Int.tmod (a1) (a0 + 2)) t301 _ (by have e_ := A7.out; rwa [(by unfold wrap64; omega : wrap64 (a0 + 2) = (a0 + 2)), (by unfold wrap64; omega : wrap64 (a1) = (a1))] at e_)).mono ?_)); rintro e w43 ⟨rfl, hb⟩; replace BK297 := bb BK297 hb; replace HB := as_ (below_step bA hb); (try clear hb); (try clear hb2); (try clear hk); (try clear hi)) | (go_at_call 10; (with_reducible refine (chain_May.calls (wrap64 (1 + (Int.tmod (wrap64 (a2_0)) 4095))) 0 t301 a0 t302 _ A8.out).mono ?_); rintro e w44 ⟨rfl, hb⟩; replace BK297 := bb BK297 hb; replace HB := as_ (below_step bA hb); (try clear hb); (try clear hb2); (try clear hk); (try clear hi)) | (go_at_call 10; (with_reducible refine (chain_May.calls (wrap64 (1 + (Int.tmod (wrap64 (a2_0)) 4095))) (wrap64 (1 + (Int.tmod (wrap64 (a2_1)) 4095))) t301 a0 t303 _ A9.out).mono ?_); rintro e w45 ⟨rfl, hb⟩; replace BK297 := bb BK297 hb; replace HB := as_ (below_step bA hb); (try clear hb); (try clear hb2); (try clear hk); (try clear hi)) | (go_at_call 12; (with_reducible refine (withylaw12_fixed.calls k  t307 _ A40.out).mono ?_); rintro e w46 ⟨rfl, hb⟩; replace BK297 := bb BK297 hb; replace HB := as_ (below_step bA hb); (try clear hb); (try clear hb2); (try clear hk); (try clear hi))); try go_wp2_with (first | ((with_reducible refine gate_dst (N := 5) rfl ?_); refine box_event (by rfl) (N := 5) (by rfl) (cs := #[.int .u16 a2_0, .int .u16 a2_1]) (t := 43) gS ?_; intro gb297 hg w41 hbox hb; have BK297 := as_ (hbox); have GW297 := gw hg bA; have GE297 := gw hg bA; replace HB := as_ (below_step bA hb); clear hb hbox hg) | (go_at_call 13; (with_reducible refine (withyref06_Size.calls a0 true _ A4.out).mono ?_); rintro e w' ⟨rfl, ⟨nd, rfl⟩⟩; (try first | exact ⟨rfl, _, World.drewN_drewN _ _ _⟩ | exact ⟨rfl, _, Eq.trans (World.drewN_drewN _ _ _) (congrArg (World.drewN _) (Nat.add_assoc _ _ _))⟩); obtain ⟨hcz42_0, hcz42_1⟩ := zc2 BK297; obtain ⟨hfz42_0, hfz42_1⟩ := zf2 BK297) | (go_at_call 16; (first | (with_reducible refine (withyref01_Repeat.calls k 5 (Int.tmod (wrap64 (a1)) (wrap64 (a0 + 2))) t301 _ A7.out).mono ?_) | (with_reducible refine (withyref01_Repeat.calls k 5 (Int.tmod (a1) (a0 + 2)) t301 _ (by have e_ := A7.out; rwa [(by unfold wrap64; omega : wrap64 (a0 + 2) = (a0 + 2)), (by unfold wrap64; omega : wrap64 (a1) = (a1))] at e_)).mono ?_)); rintro e w43 ⟨rfl, hb⟩; replace BK297 := bb BK297 hb; replace HB := as_ (below_step bA hb); (try clear hb); (try clear hb2); (try clear hk); (try clear hi)) | (go_at_call 10; (with_reducible refine (chain_May.calls (wrap64 (1 + (Int.tmod (wrap64 (a2_0)) 4095))) 0 t301 a0 t302 _ A8.out).mono ?_); rintro e w44 ⟨rfl, hb⟩; replace BK297 := bb BK297 hb; replace HB := as_ (below_step bA hb); (try clear hb); (try clear hb2); (try clear hk); (try clear hi)) | (go_at_call 10; (with_reducible refine (chain_May.calls (wrap64 (1 + (Int.tmod (wrap64 (a2_0)) 4095))) (wrap64 (1 + (Int.tmod (wrap64 (a2_1)) 4095))) t301 a0 t303 _ A9.out).mono ?_); rintro e w45 ⟨rfl, hb⟩; replace BK297 := bb BK297 hb; replace HB := as_ (below_step bA hb); (try clear hb); (try clear hb2); (try clear hk); (try clear hi)) | (go_at_call 12; (with_reducible refine (withylaw12_fixed.calls k  t307 _ A40.out).mono ?_); rintro e w46 ⟨rfl, hb⟩; replace BK297 := bb BK297 hb; replace HB := as_ (below_step bA hb); (try clear hb); (try clear hb2); (try clear hk); (try clear hi))))
   go_ret
   exact ⟨eW, by repeat (first | (with_reducible first | exact HB.out | apply below_alloc | apply pw_below_drewN | apply below_drew1 | refine below_set ?_ GE297.out) | exact HB.out)⟩
  rw [if_pos c30] at H
  have c30b0 : ((Int.tmod (wrap64 (a1)) (wrap64 (a0 + 2))) == (wrap64 (a0 - 16))) = true := beq_iff_eq.mpr c30
  have c30b1 : ((Int.tmod (wrap64 (a1)) (wrap64 (a0 + 2))) != (wrap64 (a0 - 16))) = false := bne_eq_false_iff_eq.mpr c30
  clear c30
  by_cases c31 : (t303 == ((wrap64 (1 + (Int.tmod (wrap64 (a2_0)) 4095))) != (wrap64 (1 + (Int.tmod (wrap64 (a2_1)) 4095))))) = true
  rotate_left
  ·rw [if_neg c31] at H
   exact absurd H (by simp)
  rw [if_pos c31] at H
  have c31b0 : (t303 == ((wrap64 (1 + (Int.tmod (wrap64 (a2_0)) 4095))) != (wrap64 (1 + (Int.tmod (wrap64 (a2_1)) 4095))))) = true := c31
  (try (have c31b1 : t303 = ((wrap64 (1 + (Int.tmod (wrap64 (a2_0)) 4095))) != (wrap64 (1 + (Int.tmod (wrap64 (a2_1)) 4095)))) := by simpa using c31))
  (try (have c31b2 : decide (t303 = ((wrap64 (1 + (Int.tmod (wrap64 (a2_0)) 4095))) != (wrap64 (1 + (Int.tmod (wrap64 (a2_1)) 4095))))) = true := by simpa using c31))
  (try (have c31b3 : (t303 == ((wrap64 (1 + (Int.tmod (wrap64 (a2_0)) 4095))) != (wrap64 (1 + (Int.tmod (wrap64 (a2_1)) 4095))))) = true := by simpa using c31))
  clear c31
  replace H := bM H
  obtain ⟨t306, A320, H⟩ := H
  replace H : (some t306) = some r := H
  have A32 := Aside0.mk A320
  clear A320
  obtain rfl := Option.some.inj H
  go_enter Tryd.func7, Tryd.ntmps7
  go_wp2_with (first | ((with_reducible refine gate_dst (N := 5) rfl ?_); refine box_event (by rfl) (N := 5) (by rfl) (cs := #[.int .u16 a2_0, .int .u16 a2_1]) (t := 43) gS ?_; intro gb297 hg w33 hbox hb; have BK297 := as_ (hbox); have GW297 := gw hg bA; have GE297 := gw hg bA; replace HB := as_ (below_step bA hb); clear hb hbox hg) | (go_at_call 13; (with_reducible refine (withyref06_Size.calls a0 true _ A4.out).mono ?_); rintro e w' ⟨rfl, ⟨nd, rfl⟩⟩; (try first | exact ⟨rfl, _, World.drewN_drewN _ _ _⟩ | exact ⟨rfl, _, Eq.trans (World.drewN_drewN _ _ _) (congrArg (World.drewN _) (Nat.add_assoc _ _ _))⟩); obtain ⟨hcz34_0, hcz34_1⟩ := zc2 BK297; obtain ⟨hfz34_0, hfz34_1⟩ := zf2 BK297) | (go_at_call 16; (first | (with_reducible refine (withyref01_Repeat.calls k 5 (Int.tmod (wrap64 (a1)) (wrap64 (a0 + 2))) t301 _ A7.out).mono ?_) | (with_reducible refine (withyref01_Repeat.calls k 5 (Int.tmod (a1) (a0 + 2)) t301 _ (by have e_ := A7.out; rwa [(by unfold wrap64; omega : wrap64 (a0 + 2) = (a0 + 2)), (by unfold wrap64; omega : wrap64 (a1) = (a1))] at e_)).mono ?_)); rintro e w35 ⟨rfl, hb⟩; replace BK297 := bb BK297 hb; replace HB := as_ (below_step bA hb); (try clear hb); (try clear hb2); (try clear hk); (try clear hi)) | (go_at_call 10; (with_reducible refine (chain_May.calls (wrap64 (1 + (Int.tmod (wrap64 (a2_0)) 4095))) 0 t301 a0 t302 _ A8.out).mono ?_); rintro e w36 ⟨rfl, hb⟩; replace BK297 := bb BK297 hb; replace HB := as_ (below_step bA hb); (try clear hb); (try clear hb2); (try clear hk); (try clear hi)) | (go_at_call 10; (with_reducible refine (chain_May.calls (wrap64 (1 + (Int.tmod (wrap64 (a2_0)) 4095))) (wrap64 (1 + (Int.tmod (wrap64 (a2_1)) 4095))) t301 a0 t303 _ A9.out).mono ?_); rintro e w37 ⟨rfl, hb⟩; replace BK297 := bb BK297 hb; replace HB := as_ (below_step bA hb); (try clear hb); (try clear hb2); (try clear hk); (try clear hi)) | (go_at_call 12; (with_reducible refine (withylaw12_fixed.calls k  t306 _ A32.out).mono ?_); rintro e w38 ⟨rfl, hb⟩; replace BK297 := bb BK297 hb; replace HB := as_ (below_step bA hb); (try clear hb); (try clear hb2); (try clear hk); (try clear hi)))
  repeat (go_quiet (first | ((with_reducible refine gate_dst (N := 5) rfl ?_); refine box_event (by rfl) (N := 5) (by rfl) (cs := #[.int .u16 a2_0, .int .u16 a2_1]) (t := 43) gS ?_; intro gb297 hg w33 hbox hb; have BK297 := as_ (hbox); have GW297 := gw hg bA; have GE297 := gw hg bA; replace HB := as_ (below_step bA hb); clear hb hbox hg) | (go_at_call 13; (with_reducible refine (withyref06_Size.calls a0 true _ A4.out).mono ?_); rintro e w' ⟨rfl, ⟨nd, rfl⟩⟩; (try first | exact ⟨rfl, _, World.drewN_drewN _ _ _⟩ | exact ⟨rfl, _, Eq.trans (World.drewN_drewN _ _ _) (congrArg (World.drewN _) (Nat.add_assoc _ _ _))⟩); obtain ⟨hcz34_0, hcz34_1⟩ := zc2 BK297; obtain ⟨hfz34_0, hfz34_1⟩ := zf2 BK297) | (go_at_call 16; (first | (with_reducible refine (withyref01_Repeat.calls k 5 (Int.tmod (wrap64 (a1)) (wrap64 (a0 + 2))) t301 _ A7.out).mono ?_) | (with_reducible refine (withyref01_Repeat.calls k 5 (Int.tmod (a1) (a0 + 2)) t301 _ (by have e_ := A7.out; rwa [(by unfold wrap64; omega : wrap64 (a0 + 2) = (a0 + 2)), (by unfold wrap64; omega : wrap64 (a1) = (a1))] at e_)).mono ?_)); rintro e w35 ⟨rfl, hb⟩; replace BK297 := bb BK297 hb; replace HB := as_ (below_step bA hb); (try clear hb); (try clear hb2); (try clear hk); (try clear hi)) | (go_at_call 10; (with_reducible refine (chain_May.calls (wrap64 (1 + (Int.tmod (wrap64 (a2_0)) 4095))) 0 t301 a0 t302 _ A8.out).mono ?_); rintro e w36 ⟨rfl, hb⟩; replace BK297 := bb BK297 hb; replace HB := as_ (below_step bA hb); (try clear hb); (try clear hb2); (try clear hk); (try clear hi)) | (go_at_call 10; (with_reducible refine (chain_May.calls (wrap64 (1 + (Int.tmod (wrap64 (a2_0)) 4095))) (wrap64 (1 + (Int.tmod (wrap64 (a2_1)) 4095))) t301 a0 t303 _ A9.out).mono ?_); rintro e w37 ⟨rfl, hb⟩; replace BK297 := bb BK297 hb; replace HB := as_ (below_step bA hb); (try clear hb); (try clear hb2); (try clear hk); (try clear hi)) | (go_at_call 12; (with_reducible refine (withylaw12_fixed.calls k  t306 _ A32.out).mono ?_); rintro e w38 ⟨rfl, hb⟩; replace BK297 := bb BK297 hb; replace HB := as_ (below_step bA hb); (try clear hb); (try clear hb2); (try clear hk); (try clear hi))); try go_wp2_with (first | ((with_reducible refine gate_dst (N := 5) rfl ?_); refine box_event (by rfl) (N := 5) (by rfl) (cs := #[.int .u16 a2_0, .int .u16 a2_1]) (t := 43) gS ?_; intro gb297 hg w33 hbox hb; have BK297 := as_ (hbox); have GW297 := gw hg bA; have GE297 := gw hg bA; replace HB := as_ (below_step bA hb); clear hb hbox hg) | (go_at_call 13; (with_reducible refine (withyref06_Size.calls a0 true _ A4.out).mono ?_); rintro e w' ⟨rfl, ⟨nd, rfl⟩⟩; (try first | exact ⟨rfl, _, World.drewN_drewN _ _ _⟩ | exact ⟨rfl, _, Eq.trans (World.drewN_drewN _ _ _) (congrArg (World.drewN _) (Nat.add_assoc _ _ _))⟩); obtain ⟨hcz34_0, hcz34_1⟩ := zc2 BK297; obtain ⟨hfz34_0, hfz34_1⟩ := zf2 BK297) | (go_at_call 16; (first | (with_reducible refine (withyref01_Repeat.calls k 5 (Int.tmod (wrap64 (a1)) (wrap64 (a0 + 2))) t301 _ A7.out).mono ?_) | (with_reducible refine (withyref01_Repeat.calls k 5 (Int.tmod (a1) (a0 + 2)) t301 _ (by have e_ := A7.out; rwa [(by unfold wrap64; omega : wrap64 (a0 + 2) = (a0 + 2)), (by unfold wrap64; omega : wrap64 (a1) = (a1))] at e_)).mono ?_)); rintro e w35 ⟨rfl, hb⟩; replace BK297 := bb BK297 hb; replace HB := as_ (below_step bA hb); (try clear hb); (try clear hb2); (try clear hk); (try clear hi)) | (go_at_call 10; (with_reducible refine (chain_May.calls (wrap64 (1 + (Int.tmod (wrap64 (a2_0)) 4095))) 0 t301 a0 t302 _ A8.out).mono ?_); rintro e w36 ⟨rfl, hb⟩; replace BK297 := bb BK297 hb; replace HB := as_ (below_step bA hb); (try clear hb); (try clear hb2); (try clear hk); (try clear hi)) | (go_at_call 10; (with_reducible refine (chain_May.calls (wrap64 (1 + (Int.tmod (wrap64 (a2_0)) 4095))) (wrap64 (1 + (Int.tmod (wrap64 (a2_1)) 4095))) t301 a0 t303 _ A9.out).mono ?_); rintro e w37 ⟨rfl, hb⟩; replace BK297 := bb BK297 hb; replace HB := as_ (below_step bA hb); (try clear hb); (try clear hb2); (try clear hk); (try clear hi)) | (go_at_call 12; (with_reducible refine (withylaw12_fixed.calls k  t306 _ A32.out).mono ?_); rintro e w38 ⟨rfl, hb⟩; replace BK297 := bb BK297 hb; replace HB := as_ (below_step bA hb); (try clear hb); (try clear hb2); (try clear hk); (try clear hi))))
  go_ret
  exact ⟨eW, by repeat (first | (with_reducible first | exact HB.out | apply below_alloc | apply pw_below_drewN | apply below_drew1 | refine below_set ?_ GE297.out) | exact HB.out)⟩
 rw [if_pos c10] at H
 have c10b0 : decide (1 ≤ (Int.tmod (wrap64 (a1)) (wrap64 (a0 + 2)))) = true := decide_eq_true c10
 clear c10
 by_cases c11 : (t302 == (decide ((Int.tmod (wrap64 (a1)) (wrap64 (a0 + 2))) ≤ (wrap64 (a0 - 16))))) = true
 rotate_left
 ·rw [if_neg c11] at H
  exact absurd H (by simp)
 rw [if_pos c11] at H
 have c11b0 : (t302 == (decide ((Int.tmod (wrap64 (a1)) (wrap64 (a0 + 2))) ≤ (wrap64 (a0 - 16))))) = true := c11
 (try (have c11b1 : t302 = (decide ((Int.tmod (wrap64 (a1)) (wrap64 (a0 + 2))) ≤ (wrap64 (a0 - 16)))) := by simpa using c11))
 (try (have c11b2 : decide (t302 = (decide ((Int.tmod (wrap64 (a1)) (wrap64 (a0 + 2))) ≤ (wrap64 (a0 - 16))))) = true := by simpa using c11))
 (try (have c11b3 : (t302 == (decide ((Int.tmod (wrap64 (a1)) (wrap64 (a0 + 2))) ≤ (wrap64 (a0 - 16))))) = true := by simpa using c11))
 clear c11
 by_cases c12 : (Int.tmod (wrap64 (a1)) (wrap64 (a0 + 2))) = (wrap64 (a0 - 16))
 rotate_left
 ·rw [if_neg c12] at H
  have c12b0 : ((Int.tmod (wrap64 (a1)) (wrap64 (a0 + 2))) == (wrap64 (a0 - 16))) = false := beq_eq_false_iff_ne.mpr c12
  have c12b1 : ((Int.tmod (wrap64 (a1)) (wrap64 (a0 + 2))) != (wrap64 (a0 - 16))) = true := bne_iff_ne.mpr c12
  by_cases c21 : (t303 == false) = true
  rotate_left
  ·rw [if_neg c21] at H
   exact absurd H (by simp)
  rw [if_pos c21] at H
  have c21b0 : (t303 == false) = true := c21
  (try (have c21b1 : t303 = false := by simpa using c21))
  (try (have c21b2 : decide (t303 = false) = true := by simpa using c21))
  (try (have c21b3 : (t303 == false) = true := by simpa using c21))
  clear c21
  replace H := bM H
  obtain ⟨t305, A220, H⟩ := H
  replace H : (some t305) = some r := H
  have A22 := Aside0.mk A220
  clear A220
  obtain rfl := Option.some.inj H
  go_enter Tryd.func7, Tryd.ntmps7
  go_wp2_with (first | ((with_reducible refine gate_dst (N := 5) rfl ?_); refine box_event (by rfl) (N := 5) (by rfl) (cs := #[.int .u16 a2_0, .int .u16 a2_1]) (t := 43) gS ?_; intro gb297 hg w23 hbox hb; have BK297 := as_ (hbox); have GW297 := gw hg bA; have GE297 := gw hg bA; replace HB := as_ (below_step bA hb); clear hb hbox hg) | (go_at_call 13; (with_reducible refine (withyref06_Size.calls a0 true _ A4.out).mono ?_); rintro e w' ⟨rfl, ⟨nd, rfl⟩⟩; (try first | exact ⟨rfl, _, World.drewN_drewN _ _ _⟩ | exact ⟨rfl, _, Eq.trans (World.drewN_drewN _ _ _) (congrArg (World.drewN _) (Nat.add_assoc _ _ _))⟩); obtain ⟨hcz24_0, hcz24_1⟩ := zc2 BK297; obtain ⟨hfz24_0, hfz24_1⟩ := zf2 BK297) | (go_at_call 16; (first | (with_reducible refine (withyref01_Repeat.calls k 5 (Int.tmod (wrap64 (a1)) (wrap64 (a0 + 2))) t301 _ A7.out).mono ?_) | (with_reducible refine (withyref01_Repeat.calls k 5 (Int.tmod (a1) (a0 + 2)) t301 _ (by have e_ := A7.out; rwa [(by unfold wrap64; omega : wrap64 (a0 + 2) = (a0 + 2)), (by unfold wrap64; omega : wrap64 (a1) = (a1))] at e_)).mono ?_)); rintro e w25 ⟨rfl, hb⟩; replace BK297 := bb BK297 hb; replace HB := as_ (below_step bA hb); (try clear hb); (try clear hb2); (try clear hk); (try clear hi)) | (go_at_call 10; (with_reducible refine (chain_May.calls (wrap64 (1 + (Int.tmod (wrap64 (a2_0)) 4095))) 0 t301 a0 t302 _ A8.out).mono ?_); rintro e w26 ⟨rfl, hb⟩; replace BK297 := bb BK297 hb; replace HB := as_ (below_step bA hb); (try clear hb); (try clear hb2); (try clear hk); (try clear hi)) | (go_at_call 10; (with_reducible refine (chain_May.calls (wrap64 (1 + (Int.tmod (wrap64 (a2_0)) 4095))) (wrap64 (1 + (Int.tmod (wrap64 (a2_1)) 4095))) t301 a0 t303 _ A9.out).mono ?_); rintro e w27 ⟨rfl, hb⟩; replace BK297 := bb BK297 hb; replace HB := as_ (below_step bA hb); (try clear hb); (try clear hb2); (try clear hk); (try clear hi)) | (go_at_call 12; (with_reducible refine (withylaw12_fixed.calls k  t305 _ A22.out).mono ?_); rintro e w28 ⟨rfl, hb⟩; replace BK297 := bb BK297 hb; replace HB := as_ (below_step bA hb); (try clear hb); (try clear hb2); (try clear hk); (try clear hi)))
  repeat (go_quiet (first | ((with_reducible refine gate_dst (N := 5) rfl ?_); refine box_event (by rfl) (N := 5) (by rfl) (cs := #[.int .u16 a2_0, .int .u16 a2_1]) (t := 43) gS ?_; intro gb297 hg w23 hbox hb; have BK297 := as_ (hbox); have GW297 := gw hg bA; have GE297 := gw hg bA; replace HB := as_ (below_step bA hb); clear hb hbox hg) | (go_at_call 13; (with_reducible refine (withyref06_Size.calls a0 true _ A4.out).mono ?_); rintro e w' ⟨rfl, ⟨nd, rfl⟩⟩; (try first | exact ⟨rfl, _, World.drewN_drewN _ _ _⟩ | exact ⟨rfl, _, Eq.trans (World.drewN_drewN _ _ _) (congrArg (World.drewN _) (Nat.add_assoc _ _ _))⟩); obtain ⟨hcz24_0, hcz24_1⟩ := zc2 BK297; obtain ⟨hfz24_0, hfz24_1⟩ := zf2 BK297) | (go_at_call 16; (first | (with_reducible refine (withyref01_Repeat.calls k 5 (Int.tmod (wrap64 (a1)) (wrap64 (a0 + 2))) t301 _ A7.out).mono ?_) | (with_reducible refine (withyref01_Repeat.calls k 5 (Int.tmod (a1) (a0 + 2)) t301 _ (by have e_ := A7.out; rwa [(by unfold wrap64; omega : wrap64 (a0 + 2) = (a0 + 2)), (by unfold wrap64; omega : wrap64 (a1) = (a1))] at e_)).mono ?_)); rintro e w25 ⟨rfl, hb⟩; replace BK297 := bb BK297 hb; replace HB := as_ (below_step bA hb); (try clear hb); (try clear hb2); (try clear hk); (try clear hi)) | (go_at_call 10; (with_reducible refine (chain_May.calls (wrap64 (1 + (Int.tmod (wrap64 (a2_0)) 4095))) 0 t301 a0 t302 _ A8.out).mono ?_); rintro e w26 ⟨rfl, hb⟩; replace BK297 := bb BK297 hb; replace HB := as_ (below_step bA hb); (try clear hb); (try clear hb2); (try clear hk); (try clear hi)) | (go_at_call 10; (with_reducible refine (chain_May.calls (wrap64 (1 + (Int.tmod (wrap64 (a2_0)) 4095))) (wrap64 (1 + (Int.tmod (wrap64 (a2_1)) 4095))) t301 a0 t303 _ A9.out).mono ?_); rintro e w27 ⟨rfl, hb⟩; replace BK297 := bb BK297 hb; replace HB := as_ (below_step bA hb); (try clear hb); (try clear hb2); (try clear hk); (try clear hi)) | (go_at_call 12; (with_reducible refine (withylaw12_fixed.calls k  t305 _ A22.out).mono ?_); rintro e w28 ⟨rfl, hb⟩; replace BK297 := bb BK297 hb; replace HB := as_ (below_step bA hb); (try clear hb); (try clear hb2); (try clear hk); (try clear hi))); try go_wp2_with (first | ((with_reducible refine gate_dst (N := 5) rfl ?_); refine box_event (by rfl) (N := 5) (by rfl) (cs := #[.int .u16 a2_0, .int .u16 a2_1]) (t := 43) gS ?_; intro gb297 hg w23 hbox hb; have BK297 := as_ (hbox); have GW297 := gw hg bA; have GE297 := gw hg bA; replace HB := as_ (below_step bA hb); clear hb hbox hg) | (go_at_call 13; (with_reducible refine (withyref06_Size.calls a0 true _ A4.out).mono ?_); rintro e w' ⟨rfl, ⟨nd, rfl⟩⟩; (try first | exact ⟨rfl, _, World.drewN_drewN _ _ _⟩ | exact ⟨rfl, _, Eq.trans (World.drewN_drewN _ _ _) (congrArg (World.drewN _) (Nat.add_assoc _ _ _))⟩); obtain ⟨hcz24_0, hcz24_1⟩ := zc2 BK297; obtain ⟨hfz24_0, hfz24_1⟩ := zf2 BK297) | (go_at_call 16; (first | (with_reducible refine (withyref01_Repeat.calls k 5 (Int.tmod (wrap64 (a1)) (wrap64 (a0 + 2))) t301 _ A7.out).mono ?_) | (with_reducible refine (withyref01_Repeat.calls k 5 (Int.tmod (a1) (a0 + 2)) t301 _ (by have e_ := A7.out; rwa [(by unfold wrap64; omega : wrap64 (a0 + 2) = (a0 + 2)), (by unfold wrap64; omega : wrap64 (a1) = (a1))] at e_)).mono ?_)); rintro e w25 ⟨rfl, hb⟩; replace BK297 := bb BK297 hb; replace HB := as_ (below_step bA hb); (try clear hb); (try clear hb2); (try clear hk); (try clear hi)) | (go_at_call 10; (with_reducible refine (chain_May.calls (wrap64 (1 + (Int.tmod (wrap64 (a2_0)) 4095))) 0 t301 a0 t302 _ A8.out).mono ?_); rintro e w26 ⟨rfl, hb⟩; replace BK297 := bb BK297 hb; replace HB := as_ (below_step bA hb); (try clear hb); (try clear hb2); (try clear hk); (try clear hi)) | (go_at_call 10; (with_reducible refine (chain_May.calls (wrap64 (1 + (Int.tmod (wrap64 (a2_0)) 4095))) (wrap64 (1 + (Int.tmod (wrap64 (a2_1)) 4095))) t301 a0 t303 _ A9.out).mono ?_); rintro e w27 ⟨rfl, hb⟩; replace BK297 := bb BK297 hb; replace HB := as_ (below_step bA hb); (try clear hb); (try clear hb2); (try clear hk); (try clear hi)) | (go_at_call 12; (with_reducible refine (withylaw12_fixed.calls k  t305 _ A22.out).mono ?_); rintro e w28 ⟨rfl, hb⟩; replace BK297 := bb BK297 hb; replace HB := as_ (below_step bA hb); (try clear hb); (try clear hb2); (try clear hk); (try clear hi))))
  go_ret
  exact ⟨eW, by repeat (first | (with_reducible first | exact HB.out | apply below_alloc | apply pw_below_drewN | apply below_drew1 | refine below_set ?_ GE297.out) | exact HB.out)⟩
 rw [if_pos c12] at H
 have c12b0 : ((Int.tmod (wrap64 (a1)) (wrap64 (a0 + 2))) == (wrap64 (a0 - 16))) = true := beq_iff_eq.mpr c12
 have c12b1 : ((Int.tmod (wrap64 (a1)) (wrap64 (a0 + 2))) != (wrap64 (a0 - 16))) = false := bne_eq_false_iff_eq.mpr c12
 clear c12
 by_cases c13 : (t303 == ((wrap64 (1 + (Int.tmod (wrap64 (a2_0)) 4095))) != (wrap64 (1 + (Int.tmod (wrap64 (a2_1)) 4095))))) = true
 rotate_left
 ·rw [if_neg c13] at H
  exact absurd H (by simp)
 rw [if_pos c13] at H
 have c13b0 : (t303 == ((wrap64 (1 + (Int.tmod (wrap64 (a2_0)) 4095))) != (wrap64 (1 + (Int.tmod (wrap64 (a2_1)) 4095))))) = true := c13
 (try (have c13b1 : t303 = ((wrap64 (1 + (Int.tmod (wrap64 (a2_0)) 4095))) != (wrap64 (1 + (Int.tmod (wrap64 (a2_1)) 4095)))) := by simpa using c13))
 (try (have c13b2 : decide (t303 = ((wrap64 (1 + (Int.tmod (wrap64 (a2_0)) 4095))) != (wrap64 (1 + (Int.tmod (wrap64 (a2_1)) 4095))))) = true := by simpa using c13))
 (try (have c13b3 : (t303 == ((wrap64 (1 + (Int.tmod (wrap64 (a2_0)) 4095))) != (wrap64 (1 + (Int.tmod (wrap64 (a2_1)) 4095))))) = true := by simpa using c13))
 clear c13
 replace H := bM H
 obtain ⟨t304, A140, H⟩ := H
 replace H : (some t304) = some r := H
 have A14 := Aside0.mk A140
 clear A140
 obtain rfl := Option.some.inj H
 go_enter Tryd.func7, Tryd.ntmps7
 go_wp2_with (first | ((with_reducible refine gate_dst (N := 5) rfl ?_); refine box_event (by rfl) (N := 5) (by rfl) (cs := #[.int .u16 a2_0, .int .u16 a2_1]) (t := 43) gS ?_; intro gb297 hg w15 hbox hb; have BK297 := as_ (hbox); have GW297 := gw hg bA; have GE297 := gw hg bA; replace HB := as_ (below_step bA hb); clear hb hbox hg) | (go_at_call 13; (with_reducible refine (withyref06_Size.calls a0 true _ A4.out).mono ?_); rintro e w' ⟨rfl, ⟨nd, rfl⟩⟩; (try first | exact ⟨rfl, _, World.drewN_drewN _ _ _⟩ | exact ⟨rfl, _, Eq.trans (World.drewN_drewN _ _ _) (congrArg (World.drewN _) (Nat.add_assoc _ _ _))⟩); obtain ⟨hcz16_0, hcz16_1⟩ := zc2 BK297; obtain ⟨hfz16_0, hfz16_1⟩ := zf2 BK297) | (go_at_call 16; (first | (with_reducible refine (withyref01_Repeat.calls k 5 (Int.tmod (wrap64 (a1)) (wrap64 (a0 + 2))) t301 _ A7.out).mono ?_) | (with_reducible refine (withyref01_Repeat.calls k 5 (Int.tmod (a1) (a0 + 2)) t301 _ (by have e_ := A7.out; rwa [(by unfold wrap64; omega : wrap64 (a0 + 2) = (a0 + 2)), (by unfold wrap64; omega : wrap64 (a1) = (a1))] at e_)).mono ?_)); rintro e w17 ⟨rfl, hb⟩; replace BK297 := bb BK297 hb; replace HB := as_ (below_step bA hb); (try clear hb); (try clear hb2); (try clear hk); (try clear hi)) | (go_at_call 10; (with_reducible refine (chain_May.calls (wrap64 (1 + (Int.tmod (wrap64 (a2_0)) 4095))) 0 t301 a0 t302 _ A8.out).mono ?_); rintro e w18 ⟨rfl, hb⟩; replace BK297 := bb BK297 hb; replace HB := as_ (below_step bA hb); (try clear hb); (try clear hb2); (try clear hk); (try clear hi)) | (go_at_call 10; (with_reducible refine (chain_May.calls (wrap64 (1 + (Int.tmod (wrap64 (a2_0)) 4095))) (wrap64 (1 + (Int.tmod (wrap64 (a2_1)) 4095))) t301 a0 t303 _ A9.out).mono ?_); rintro e w19 ⟨rfl, hb⟩; replace BK297 := bb BK297 hb; replace HB := as_ (below_step bA hb); (try clear hb); (try clear hb2); (try clear hk); (try clear hi)) | (go_at_call 12; (with_reducible refine (withylaw12_fixed.calls k  t304 _ A14.out).mono ?_); rintro e w20 ⟨rfl, hb⟩; replace BK297 := bb BK297 hb; replace HB := as_ (below_step bA hb); (try clear hb); (try clear hb2); (try clear hk); (try clear hi)))
 repeat (go_quiet (first | ((with_reducible refine gate_dst (N := 5) rfl ?_); refine box_event (by rfl) (N := 5) (by rfl) (cs := #[.int .u16 a2_0, .int .u16 a2_1]) (t := 43) gS ?_; intro gb297 hg w15 hbox hb; have BK297 := as_ (hbox); have GW297 := gw hg bA; have GE297 := gw hg bA; replace HB := as_ (below_step bA hb); clear hb hbox hg) | (go_at_call 13; (with_reducible refine (withyref06_Size.calls a0 true _ A4.out).mono ?_); rintro e w' ⟨rfl, ⟨nd, rfl⟩⟩; (try first | exact ⟨rfl, _, World.drewN_drewN _ _ _⟩ | exact ⟨rfl, _, Eq.trans (World.drewN_drewN _ _ _) (congrArg (World.drewN _) (Nat.add_assoc _ _ _))⟩); obtain ⟨hcz16_0, hcz16_1⟩ := zc2 BK297; obtain ⟨hfz16_0, hfz16_1⟩ := zf2 BK297) | (go_at_call 16; (first | (with_reducible refine (withyref01_Repeat.calls k 5 (Int.tmod (wrap64 (a1)) (wrap64 (a0 + 2))) t301 _ A7.out).mono ?_) | (with_reducible refine (withyref01_Repeat.calls k 5 (Int.tmod (a1) (a0 + 2)) t301 _ (by have e_ := A7.out; rwa [(by unfold wrap64; omega : wrap64 (a0 + 2) = (a0 + 2)), (by unfold wrap64; omega : wrap64 (a1) = (a1))] at e_)).mono ?_)); rintro e w17 ⟨rfl, hb⟩; replace BK297 := bb BK297 hb; replace HB := as_ (below_step bA hb); (try clear hb); (try clear hb2); (try clear hk); (try clear hi)) | (go_at_call 10; (with_reducible refine (chain_May.calls (wrap64 (1 + (Int.tmod (wrap64 (a2_0)) 4095))) 0 t301 a0 t302 _ A8.out).mono ?_); rintro e w18 ⟨rfl, hb⟩; replace BK297 := bb BK297 hb; replace HB := as_ (below_step bA hb); (try clear hb); (try clear hb2); (try clear hk); (try clear hi)) | (go_at_call 10; (with_reducible refine (chain_May.calls (wrap64 (1 + (Int.tmod (wrap64 (a2_0)) 4095))) (wrap64 (1 + (Int.tmod (wrap64 (a2_1)) 4095))) t301 a0 t303 _ A9.out).mono ?_); rintro e w19 ⟨rfl, hb⟩; replace BK297 := bb BK297 hb; replace HB := as_ (below_step bA hb); (try clear hb); (try clear hb2); (try clear hk); (try clear hi)) | (go_at_call 12; (with_reducible refine (withylaw12_fixed.calls k  t304 _ A14.out).mono ?_); rintro e w20 ⟨rfl, hb⟩; replace BK297 := bb BK297 hb; replace HB := as_ (below_step bA hb); (try clear hb); (try clear hb2); (try clear hk); (try clear hi))); try go_wp2_with (first | ((with_reducible refine gate_dst (N := 5) rfl ?_); refine box_event (by rfl) (N := 5) (by rfl) (cs := #[.int .u16 a2_0, .int .u16 a2_1]) (t := 43) gS ?_; intro gb297 hg w15 hbox hb; have BK297 := as_ (hbox); have GW297 := gw hg bA; have GE297 := gw hg bA; replace HB := as_ (below_step bA hb); clear hb hbox hg) | (go_at_call 13; (with_reducible refine (withyref06_Size.calls a0 true _ A4.out).mono ?_); rintro e w' ⟨rfl, ⟨nd, rfl⟩⟩; (try first | exact ⟨rfl, _, World.drewN_drewN _ _ _⟩ | exact ⟨rfl, _, Eq.trans (World.drewN_drewN _ _ _) (congrArg (World.drewN _) (Nat.add_assoc _ _ _))⟩); obtain ⟨hcz16_0, hcz16_1⟩ := zc2 BK297; obtain ⟨hfz16_0, hfz16_1⟩ := zf2 BK297) | (go_at_call 16; (first | (with_reducible refine (withyref01_Repeat.calls k 5 (Int.tmod (wrap64 (a1)) (wrap64 (a0 + 2))) t301 _ A7.out).mono ?_) | (with_reducible refine (withyref01_Repeat.calls k 5 (Int.tmod (a1) (a0 + 2)) t301 _ (by have e_ := A7.out; rwa [(by unfold wrap64; omega : wrap64 (a0 + 2) = (a0 + 2)), (by unfold wrap64; omega : wrap64 (a1) = (a1))] at e_)).mono ?_)); rintro e w17 ⟨rfl, hb⟩; replace BK297 := bb BK297 hb; replace HB := as_ (below_step bA hb); (try clear hb); (try clear hb2); (try clear hk); (try clear hi)) | (go_at_call 10; (with_reducible refine (chain_May.calls (wrap64 (1 + (Int.tmod (wrap64 (a2_0)) 4095))) 0 t301 a0 t302 _ A8.out).mono ?_); rintro e w18 ⟨rfl, hb⟩; replace BK297 := bb BK297 hb; replace HB := as_ (below_step bA hb); (try clear hb); (try clear hb2); (try clear hk); (try clear hi)) | (go_at_call 10; (with_reducible refine (chain_May.calls (wrap64 (1 + (Int.tmod (wrap64 (a2_0)) 4095))) (wrap64 (1 + (Int.tmod (wrap64 (a2_1)) 4095))) t301 a0 t303 _ A9.out).mono ?_); rintro e w19 ⟨rfl, hb⟩; replace BK297 := bb BK297 hb; replace HB := as_ (below_step bA hb); (try clear hb); (try clear hb2); (try clear hk); (try clear hi)) | (go_at_call 12; (with_reducible refine (withylaw12_fixed.calls k  t304 _ A14.out).mono ?_); rintro e w20 ⟨rfl, hb⟩; replace BK297 := bb BK297 hb; replace HB := as_ (below_step bA hb); (try clear hb); (try clear hb2); (try clear hk); (try clear hi))))
 go_ret
 exact ⟨eW, by repeat (first | (with_reducible first | exact HB.out | apply below_alloc | apply pw_below_drewN | apply below_drew1 | refine below_set ?_ GE297.out) | exact HB.out)⟩
end Go.Proofs.YtggfnlnonigkiaaDoor.P
