/- What is proved here: for functions of the Go text, a Lean function each, and that the call comes to just what it answers. Conditions: as each contract names them. Written by wip/tools/myprint.py, a driver of the print of the kit. -/
import Derived.Test.YtggfnlnonigkiaaGreatDoorP0
import Derived.Test.YtggfnlnonigkiaaGreatDoorP1
import Derived.Test.YtggfnlnonigkiaaGreatDoorP3
import Derived.Test.YtggfnlnonigkiaaGreatDoorP5
import Derived.Test.YtggfnlnonigkiaaGreatDoorP6
import Derived.Test.YtggfnlnonigkiaaGreatDoorP11
import Derived.Test.YtggfnlnonigkiaaGreatDoorP13
import Derived.Test.YtggfnlnonigkiaaGreatDoorWAbbr
namespace Go.Proofs.YtggfnlnonigkiaaGreatDoor.P
open Go.RowKit Go.Proofs.YtggfnlnonigkiaaGreatDoorW.PrintWords Go.Proofs.YtggfnlnonigkiaaGreatDoorW.PrintLast Go.Proofs.YtggfnlnonigkiaaGreatDoorW.PrintMore Go.Proofs.YtggfnlnonigkiaaGreatDoorW.Abbr
-- PACKED
attribute [local go_sem] max2_int min2_int max_two min_two max_three min_three max_four min_four Go.Proofs.YtggfnlnonigkiaaGreatDoorLaws.str_leq Go.Proofs.YtggfnlnonigkiaaGreatDoorLaws.str_gtr Go.Proofs.YtggfnlnonigkiaaGreatDoorLaws.str_geq Go.Proofs.YtggfnlnonigkiaaGreatDoorLaws.max2_str Go.Proofs.YtggfnlnonigkiaaGreatDoorLaws.min2_str   -- for this text's walks alone
set_option linter.unusedVariables false
set_option linter.unusedSimpArgs false

attribute [local go_sem high] eqA23
/-! ### withylaw12_fixed: function 13 -/
def withylaw12_fixed.j0 : Nat → ByteArray → Int → Int → Int → ByteArray → Bool → Int → Int → ByteArray → Option (Bool)
 | 0, _, _, _, _, _, _, _, _, _ => none
 | k + 1, x2, x5, x7, x9, x10, x56, x228000, x228001, x228002 => if x56 = true then (none) else ((chain_Decode.f k x2).bind fun bt239 => ((chain_Decode.f k x10).bind fun bt244 => ((withyref01_Repeat.f k 0 128).bind fun t249 => ((chain_Decode.f k t249).bind fun bt250 => ((withyref01_Repeat.f k 1 113).bind fun t255 => ((chain_Parts.f k t255 128).bind fun t256 => (if 0 < (x2.size : Int) then (if (bt x2 0) = 4 then (if 2 < (x2.size : Int) then (if (bt x2 2) = 3 then (if 16 ≤ 20 then (if 20 ≤ (x2.size : Int) then (if (x2.extract 16 20).toList = ([97, 98, 99, 0] : List UInt8) then (if x5 = 4 then (if x7 = 3 then (if x9 = 3 then (if (bt239.1 == x228000 && (bt239.2.1 == x228001 && (bt239.2.2.1.toList == x228002.toList))) = true then (if bt239.2.2.2 = 0 then (if bt244.2.1 = 6 then (if (bt244.2.2.1.size : Int) = 112 then (if bt244.2.2.2 = 0 then (if bt250.2.2.2 = 3 then (if (t256.length : Int) = 2 then (if 0 < (t256.length : Int) then (if ((rdOf ByteArray.empty t256 0).size : Int) = 112 then (if 1 < (t256.length : Int) then (if ((rdOf ByteArray.empty t256 1).size : Int) = 1 then ((chain_Pages.f 113 128).bind fun t261 => (if t261 = 2 then ((chain_Pages.f 112 128).bind fun t262 => (if t262 = 1 then ((chain_Pages.f 0 128).bind fun t263 => (if t263 = 0 then ((chain_Parts.f k (⟨#[]⟩ : ByteArray) 128).bind fun t264 => (if (t264.length : Int) = 0 then ((chain_May.f x228000 x228001 x228002 128).bind fun t267 => (if t267 = true then ((chain_May.f 0 0 (⟨#[]⟩ : ByteArray) 128).bind fun t268 => (some (!t268))) else (none))) else (none))) else (none))) else (none))) else (none))) else (none)) else (none)) else (none)) else (none)) else (none)) else (none)) else (none)) else (none)) else (none)) else (none)) else (none)) else (none)) else (none)) else (none)) else (none)) else (none)) else (none)) else (none)) else (none)) else (none)) else (none))))))))
def withylaw12_fixed.f (k : Nat)  : Option (Bool) := (chain_Encode.f k 5 0 (⟨#[97, 98, 99]⟩ : ByteArray) 128).bind fun bt228 => ((chain_Encode.f k 5 0 (⟨#[97, 98, 99]⟩ : ByteArray) 64).bind fun bt230 => ((chain_Encode.f k 5 0 (⟨#[]⟩ : ByteArray) 128).bind fun bt232 => ((chain_Encode.f k 5 6 (⟨#[97, 98, 99]⟩ : ByteArray) 128).bind fun bt234 => ((withyref01_Repeat.f k 7 112).bind fun t236 => ((chain_Encode.f k 5 6 t236 128).bind fun bt237 => (if bt228.2 = 0 then (if (bt228.1.size : Int) = 128 then (withylaw12_fixed.j0 k bt228.1 bt230.2 bt232.2 bt234.2 bt237.1 (bt237.2 != 0) 5 0 (⟨#[97, 98, 99]⟩ : ByteArray)) else (withylaw12_fixed.j0 k bt228.1 bt230.2 bt232.2 bt234.2 bt237.1 true 5 0 (⟨#[97, 98, 99]⟩ : ByteArray))) else (withylaw12_fixed.j0 k bt228.1 bt230.2 bt232.2 bt234.2 bt237.1 true 5 0 (⟨#[97, 98, 99]⟩ : ByteArray))))))))
theorem withylaw12_fixed.mono_l : ∀ k, (∀ y0 y1 y2 y3 y4 y5 y6 y7 y8, LeO (withylaw12_fixed.j0 k y0 y1 y2 y3 y4 y5 y6 y7 y8) (withylaw12_fixed.j0 (k + 1) y0 y1 y2 y3 y4 y5 y6 y7 y8))
 | 0 => fun _ _ _ _ _ _ _ _ _ r h => by simp [withylaw12_fixed.j0] at h
 | k + 1 => by
  have ih0 := withylaw12_fixed.mono_l k
  ·intro y0 y1 y2 y3 y4 y5 y6 y7 y8
   unfold withylaw12_fixed.j0
   repeat' first
   | (with_reducible exact ih0 _ _ _ _ _ _ _ _ _)
   | (with_reducible exact chain_Decode.mono _ _)
   | (with_reducible exact chain_Encode.mono _ _ _ _ _)
   | (with_reducible exact chain_Parts.mono _ _ _)
   | (with_reducible exact withyref01_Repeat.mono _ _ _)
   | (with_reducible exact LeO.refl _)
   | (with_reducible exact LeO.none _)
   | (with_reducible refine LeO.ite ?_ ?_)
   | (with_reducible refine LeO.bind ?_ (fun _ => ?_))
   | exact ih0 _ _ _ _ _ _ _ _ _
   | exact chain_Decode.mono _ _
   | exact chain_Encode.mono _ _ _ _ _
   | exact chain_Parts.mono _ _ _
   | exact withyref01_Repeat.mono _ _ _
   | exact LeO.none _
   | refine LeO.ite ?_ ?_
   | refine LeO.bind ?_ (fun _ => ?_)
theorem withylaw12_fixed.mono : ∀ k, LeO (withylaw12_fixed.f k ) (withylaw12_fixed.f (k + 1) ) := by
 intro  k
 have ih0 := withylaw12_fixed.mono_l k
 unfold withylaw12_fixed.f
 repeat' first
   | (with_reducible exact ih0 _ _ _ _ _ _ _ _ _)
   | (with_reducible exact chain_Decode.mono _ _)
   | (with_reducible exact chain_Encode.mono _ _ _ _ _)
   | (with_reducible exact chain_Parts.mono _ _ _)
   | (with_reducible exact withyref01_Repeat.mono _ _ _)
   | (with_reducible exact LeO.refl _)
   | (with_reducible exact LeO.none _)
   | (with_reducible refine LeO.ite ?_ ?_)
   | (with_reducible refine LeO.bind ?_ (fun _ => ?_))
   | exact ih0 _ _ _ _ _ _ _ _ _
   | exact chain_Decode.mono _ _
   | exact chain_Encode.mono _ _ _ _ _
   | exact chain_Parts.mono _ _ _
   | exact withyref01_Repeat.mono _ _ _
   | exact LeO.none _
   | refine LeO.ite ?_ ?_
   | refine LeO.bind ?_ (fun _ => ?_)
set_option maxHeartbeats 8000000 in
set_option maxRecDepth 100000 in
theorem withylaw12_fixed.calls (k : Nat)  (r : Bool) (w : World) (h : withylaw12_fixed.f k  = some r) :
  Calls Tryz.prog 13 #[] w fun e w' => e = .returned (.bool r) ∧ Below w.heap.size w w' := by
 have hu23 := Tryz.underlying23
 have HB := as_ (Below.refl w.heap.size w)
 have H : ((chain_Encode.f k 5 0 (⟨#[97, 98, 99]⟩ : ByteArray) 128).bind fun bt228 => ((chain_Encode.f k 5 0 (⟨#[97, 98, 99]⟩ : ByteArray) 64).bind fun bt230 => ((chain_Encode.f k 5 0 (⟨#[]⟩ : ByteArray) 128).bind fun bt232 => ((chain_Encode.f k 5 6 (⟨#[97, 98, 99]⟩ : ByteArray) 128).bind fun bt234 => ((withyref01_Repeat.f k 7 112).bind fun t236 => ((chain_Encode.f k 5 6 t236 128).bind fun bt237 => (if bt228.2 = 0 then (if (bt228.1.size : Int) = 128 then (withylaw12_fixed.j0 k bt228.1 bt230.2 bt232.2 bt234.2 bt237.1 (bt237.2 != 0) 5 0 (⟨#[97, 98, 99]⟩ : ByteArray)) else (withylaw12_fixed.j0 k bt228.1 bt230.2 bt232.2 bt234.2 bt237.1 true 5 0 (⟨#[97, 98, 99]⟩ : ByteArray))) else (withylaw12_fixed.j0 k bt228.1 bt230.2 bt232.2 bt234.2 bt237.1 true 5 0 (⟨#[97, 98, 99]⟩ : ByteArray))))))))) = some r := h
 clear h
 replace H := bM H
 obtain ⟨⟨t228, t229⟩, A10, H⟩ := H
 replace H : ((chain_Encode.f k 5 0 (⟨#[97, 98, 99]⟩ : ByteArray) 64).bind fun bt230 => ((chain_Encode.f k 5 0 (⟨#[]⟩ : ByteArray) 128).bind fun bt232 => ((chain_Encode.f k 5 6 (⟨#[97, 98, 99]⟩ : ByteArray) 128).bind fun bt234 => ((withyref01_Repeat.f k 7 112).bind fun t236 => ((chain_Encode.f k 5 6 t236 128).bind fun bt237 => (if t229 = 0 then (if (t228.size : Int) = 128 then (withylaw12_fixed.j0 k t228 bt230.2 bt232.2 bt234.2 bt237.1 (bt237.2 != 0) 5 0 (⟨#[97, 98, 99]⟩ : ByteArray)) else (withylaw12_fixed.j0 k t228 bt230.2 bt232.2 bt234.2 bt237.1 true 5 0 (⟨#[97, 98, 99]⟩ : ByteArray))) else (withylaw12_fixed.j0 k t228 bt230.2 bt232.2 bt234.2 bt237.1 true 5 0 (⟨#[97, 98, 99]⟩ : ByteArray)))))))) = some r := H
 have A1 := Aside0.mk A10
 clear A10
 replace H := bM H
 obtain ⟨⟨t230, t231⟩, A20, H⟩ := H
 replace H : ((chain_Encode.f k 5 0 (⟨#[]⟩ : ByteArray) 128).bind fun bt232 => ((chain_Encode.f k 5 6 (⟨#[97, 98, 99]⟩ : ByteArray) 128).bind fun bt234 => ((withyref01_Repeat.f k 7 112).bind fun t236 => ((chain_Encode.f k 5 6 t236 128).bind fun bt237 => (if t229 = 0 then (if (t228.size : Int) = 128 then (withylaw12_fixed.j0 k t228 t231 bt232.2 bt234.2 bt237.1 (bt237.2 != 0) 5 0 (⟨#[97, 98, 99]⟩ : ByteArray)) else (withylaw12_fixed.j0 k t228 t231 bt232.2 bt234.2 bt237.1 true 5 0 (⟨#[97, 98, 99]⟩ : ByteArray))) else (withylaw12_fixed.j0 k t228 t231 bt232.2 bt234.2 bt237.1 true 5 0 (⟨#[97, 98, 99]⟩ : ByteArray))))))) = some r := H
 have A2 := Aside0.mk A20
 clear A20
 replace H := bM H
 obtain ⟨⟨t232, t233⟩, A30, H⟩ := H
 replace H : ((chain_Encode.f k 5 6 (⟨#[97, 98, 99]⟩ : ByteArray) 128).bind fun bt234 => ((withyref01_Repeat.f k 7 112).bind fun t236 => ((chain_Encode.f k 5 6 t236 128).bind fun bt237 => (if t229 = 0 then (if (t228.size : Int) = 128 then (withylaw12_fixed.j0 k t228 t231 t233 bt234.2 bt237.1 (bt237.2 != 0) 5 0 (⟨#[97, 98, 99]⟩ : ByteArray)) else (withylaw12_fixed.j0 k t228 t231 t233 bt234.2 bt237.1 true 5 0 (⟨#[97, 98, 99]⟩ : ByteArray))) else (withylaw12_fixed.j0 k t228 t231 t233 bt234.2 bt237.1 true 5 0 (⟨#[97, 98, 99]⟩ : ByteArray)))))) = some r := H
 have A3 := Aside0.mk A30
 clear A30
 replace H := bM H
 obtain ⟨⟨t234, t235⟩, A40, H⟩ := H
 replace H : ((withyref01_Repeat.f k 7 112).bind fun t236 => ((chain_Encode.f k 5 6 t236 128).bind fun bt237 => (if t229 = 0 then (if (t228.size : Int) = 128 then (withylaw12_fixed.j0 k t228 t231 t233 t235 bt237.1 (bt237.2 != 0) 5 0 (⟨#[97, 98, 99]⟩ : ByteArray)) else (withylaw12_fixed.j0 k t228 t231 t233 t235 bt237.1 true 5 0 (⟨#[97, 98, 99]⟩ : ByteArray))) else (withylaw12_fixed.j0 k t228 t231 t233 t235 bt237.1 true 5 0 (⟨#[97, 98, 99]⟩ : ByteArray))))) = some r := H
 have A4 := Aside0.mk A40
 clear A40
 replace H := bM H
 obtain ⟨t236, A50, H⟩ := H
 replace H : ((chain_Encode.f k 5 6 t236 128).bind fun bt237 => (if t229 = 0 then (if (t228.size : Int) = 128 then (withylaw12_fixed.j0 k t228 t231 t233 t235 bt237.1 (bt237.2 != 0) 5 0 (⟨#[97, 98, 99]⟩ : ByteArray)) else (withylaw12_fixed.j0 k t228 t231 t233 t235 bt237.1 true 5 0 (⟨#[97, 98, 99]⟩ : ByteArray))) else (withylaw12_fixed.j0 k t228 t231 t233 t235 bt237.1 true 5 0 (⟨#[97, 98, 99]⟩ : ByteArray)))) = some r := H
 have A5 := Aside0.mk A50
 clear A50
 replace H := bM H
 obtain ⟨⟨t237, t238⟩, A60, H⟩ := H
 replace H : (if t229 = 0 then (if (t228.size : Int) = 128 then (withylaw12_fixed.j0 k t228 t231 t233 t235 t237 (t238 != 0) 5 0 (⟨#[97, 98, 99]⟩ : ByteArray)) else (withylaw12_fixed.j0 k t228 t231 t233 t235 t237 true 5 0 (⟨#[97, 98, 99]⟩ : ByteArray))) else (withylaw12_fixed.j0 k t228 t231 t233 t235 t237 true 5 0 (⟨#[97, 98, 99]⟩ : ByteArray))) = some r := H
 have A6 := Aside0.mk A60
 clear A60
 have HC7 := Aside0.mk H
 clear H
 go_enter Tryz.func13, Tryz.ntmps13
 (try simp only [List.append_eq, List.cons_append, List.nil_append])
 go_upto_region 7 with (first | ((with_reducible refine gate_dst (N := 1) rfl ?_); (try (refine gate_guard (by rfl) ?_; dsimp only)); refine box_event ?hg (N := 1) ?hd (cs := #[.int .i64 0, .int .i64 0, .string (⟨#[]⟩ : ByteArray)]) (t := 23) ?hr ?_; (case hd => rfl); (case hg => rfl); (case hr => first | (go_simp; done) | (go_simp; rfl)); intro gb227 hg w8 hbox hb; have BK227 := as_ (hbox); have GW227 := gw hg bA; have GE227 := gw hg bA; replace HB := as_ (below_step bA hb); clear hb hbox hg; obtain ⟨hcz9_0, hcz9_1, hcz9_2⟩ := zc3 BK227; obtain ⟨hfz9_0, hfz9_1, hfz9_2⟩ := zf3 BK227) | ((with_reducible refine gate_callee (f := 5) rfl ?_); refine goesL_ (some 22) rfl rfl Tryz.func5 (by kernel_rfl) rfl #[.agg #[.int .i64 5, .int .i64 0, .string (⟨#[97, 98, 99]⟩ : ByteArray)], .int .i64 128] rfl aO ?_; (with_reducible refine (chain_Encode.calls k 5 0 (⟨#[97, 98, 99]⟩ : ByteArray) 128 t228 t229 _ A1.out).mono ?_); rintro e w10 ⟨rfl, hb⟩; refine ⟨_, rfl, ?_⟩; replace BK227 := as_ (blk_below (g := gb227) (o := .cells #[.int .i64 5, .int .i64 0, .string (⟨#[97, 98, 99]⟩ : ByteArray)] 23 (0, 0)) (by refine bx ?_; refine blk_put (cs := #[.int .i64 5, .int .i64 0, .string (⟨#[]⟩ : ByteArray)]) ?_ 2 _ rfl; refine bx ?_; refine blk_put (cs := #[.int .i64 5, .int .i64 0, .string (⟨#[]⟩ : ByteArray)]) ?_ 1 _ rfl; refine bx ?_; refine blk_put (cs := #[.int .i64 0, .int .i64 0, .string (⟨#[]⟩ : ByteArray)]) ?_ 0 _ rfl; refine bx ?_; exact BK227.out) hb); replace HB := as_ (below_step bA hb); (try clear hb); (try clear hb2); (try clear hk); (try clear hi); obtain ⟨hcz11_0, hcz11_1, hcz11_2⟩ := zc3 BK227; obtain ⟨hfz11_0, hfz11_1, hfz11_2⟩ := zf3 BK227) | ((with_reducible refine gate_callee (f := 5) rfl ?_); refine goesL_ (some 27) rfl rfl Tryz.func5 (by kernel_rfl) rfl #[.agg #[.int .i64 5, .int .i64 0, .string (⟨#[97, 98, 99]⟩ : ByteArray)], .int .i64 64] rfl aO ?_; (with_reducible refine (chain_Encode.calls k 5 0 (⟨#[97, 98, 99]⟩ : ByteArray) 64 t230 t231 _ A2.out).mono ?_); rintro e w12 ⟨rfl, hb⟩; refine ⟨_, rfl, ?_⟩; replace BK227 := as_ (blk_below (g := gb227) (o := .cells #[.int .i64 5, .int .i64 0, .string (⟨#[97, 98, 99]⟩ : ByteArray)] 23 (0, 0)) (bk BK227) hb); replace HB := as_ (below_step bA hb); (try clear hb); (try clear hb2); (try clear hk); (try clear hi)) | ((with_reducible refine gate_callee (f := 5) rfl ?_); refine goesL_ (some 32) rfl rfl Tryz.func5 (by kernel_rfl) rfl #[.agg #[.int .i64 5, .int .i64 0, .string (⟨#[]⟩ : ByteArray)], .int .i64 128] rfl aO ?_; (with_reducible refine (chain_Encode.calls k 5 0 (⟨#[]⟩ : ByteArray) 128 t232 t233 _ A3.out).mono ?_); rintro e w13 ⟨rfl, hb⟩; refine ⟨_, rfl, ?_⟩; replace BK227 := as_ (blk_below (g := gb227) (o := .cells #[.int .i64 5, .int .i64 0, .string (⟨#[97, 98, 99]⟩ : ByteArray)] 23 (0, 0)) (bk BK227) hb); replace HB := as_ (below_step bA hb); (try clear hb); (try clear hb2); (try clear hk); (try clear hi)) | ((with_reducible refine gate_callee (f := 5) rfl ?_); refine goesL_ (some 37) rfl rfl Tryz.func5 (by kernel_rfl) rfl #[.agg #[.int .i64 5, .int .i64 6, .string (⟨#[97, 98, 99]⟩ : ByteArray)], .int .i64 128] rfl aO ?_; (with_reducible refine (chain_Encode.calls k 5 6 (⟨#[97, 98, 99]⟩ : ByteArray) 128 t234 t235 _ A4.out).mono ?_); rintro e w14 ⟨rfl, hb⟩; refine ⟨_, rfl, ?_⟩; replace BK227 := as_ (blk_below (g := gb227) (o := .cells #[.int .i64 5, .int .i64 0, .string (⟨#[97, 98, 99]⟩ : ByteArray)] 23 (0, 0)) (bk BK227) hb); replace HB := as_ (below_step bA hb); (try clear hb); (try clear hb2); (try clear hk); (try clear hi)) | ((with_reducible refine gate_callee (f := 26) rfl ?_); refine goesL_ (some 41) rfl rfl Tryz.func26 (by kernel_rfl) rfl #[.int .u8 7, .int .i64 112] rfl aO ?_; (with_reducible refine (withyref01_Repeat.calls k 7 112 t236 _ A5.out).mono ?_); rintro e w15 ⟨rfl, hb⟩; refine ⟨_, rfl, ?_⟩; replace BK227 := as_ (blk_below (g := gb227) (o := .cells #[.int .i64 5, .int .i64 0, .string (⟨#[97, 98, 99]⟩ : ByteArray)] 23 (0, 0)) (bk BK227) hb); replace HB := as_ (below_step bA hb); (try clear hb); (try clear hb2); (try clear hk); (try clear hi)) | ((with_reducible refine gate_callee (f := 5) rfl ?_); refine goesL_ (some 43) rfl rfl Tryz.func5 (by kernel_rfl) rfl #[.agg #[.int .i64 5, .int .i64 6, .string t236], .int .i64 128] rfl aO ?_; (with_reducible refine (chain_Encode.calls k 5 6 t236 128 t237 t238 _ A6.out).mono ?_); rintro e w16 ⟨rfl, hb⟩; refine ⟨_, rfl, ?_⟩; replace BK227 := as_ (blk_below (g := gb227) (o := .cells #[.int .i64 5, .int .i64 0, .string (⟨#[97, 98, 99]⟩ : ByteArray)] 23 (0, 0)) (bk BK227) hb); replace HB := as_ (below_step bA hb); (try clear hb); (try clear hb2); (try clear hk); (try clear hi)))
 (try simp only [Act.put, List.setIfInBounds_toArray, List.set_cons_zero, List.set_cons_succ])
 go_cut [56] (fun v56 wc => ∃ (kq : Nat) (x56_6 : Bool), v56 = .bool x56_6 ∧ Aside0 (withylaw12_fixed.j0 kq t228 t231 t233 t235 t237 x56_6 5 0 (⟨#[97, 98, 99]⟩ : ByteArray) = some r) ∧ Aside0 (kq ≤ k) ∧ Aside0 (wc.heap[gb227]? = some (.cells #[.int .i64 5, .int .i64 0, .string (⟨#[97, 98, 99]⟩ : ByteArray)] 23 (0, 0))) ∧ Aside0 (Below w.heap.size w wc))
 case first =>
  have H := HC7.out
  clear HC7
  by_cases c17 : t229 = 0
  rotate_left
  ·rw [if_neg c17] at H
   have c17b0 : (t229 == 0) = false := beq_eq_false_iff_ne.mpr c17
   have c17b1 : (t229 != 0) = true := bne_iff_ne.mpr c17
   (first | rw [c17b0] | (simp only [i64_w, i32_w]; rw [c17b0]) | rw [c17b1] | skip)
   have H' := Aside0.mk H
   clear H
   go_wp2
   go_meet
   case rel => exact ⟨_, (true), (by first | rfl | (simp; done) | (simp [*]; done)), H', ⟨by first | omega | exact Nat.le_refl _⟩, ⟨by refine bx ?_; exact BK227.out⟩, ⟨by repeat (first | (with_reducible first | exact HB.out | apply below_alloc | apply pw_below_drewN | apply below_drew1 | refine below_set ?_ GE227.out) | exact HB.out)⟩⟩
  rw [if_pos c17] at H
  have c17b0 : (t229 == 0) = true := beq_iff_eq.mpr c17
  have c17b1 : (t229 != 0) = false := bne_eq_false_iff_eq.mpr c17
  clear c17
  (first | rw [c17b0] | (simp only [i64_w, i32_w]; rw [c17b0]) | rw [c17b1] | skip)
  by_cases c18 : (t228.size : Int) = 128
  rotate_left
  ·rw [if_neg c18] at H
   have c18b0 : ((t228.size : Int) == 128) = false := beq_eq_false_iff_ne.mpr c18
   have c18b1 : ((t228.size : Int) != 128) = true := bne_iff_ne.mpr c18
   have H' := Aside0.mk H
   clear H
   go_wp2
   go_meet
   case rel => exact ⟨_, (true), (by first | rfl | (simp; done) | (simp [*]; done)), H', ⟨by first | omega | exact Nat.le_refl _⟩, ⟨by refine bx ?_; exact BK227.out⟩, ⟨by repeat (first | (with_reducible first | exact HB.out | apply below_alloc | apply pw_below_drewN | apply below_drew1 | refine below_set ?_ GE227.out) | exact HB.out)⟩⟩
  rw [if_pos c18] at H
  have c18b0 : ((t228.size : Int) == 128) = true := beq_iff_eq.mpr c18
  have c18b1 : ((t228.size : Int) != 128) = false := bne_eq_false_iff_eq.mpr c18
  clear c18
  have H' := Aside0.mk H
  clear H
  go_wp2
  go_meet
  case rel => exact ⟨_, ((t238 != 0)), (by first | rfl | (simp; done) | (simp [*]; done)), H', ⟨by first | omega | exact Nat.le_refl _⟩, ⟨by refine bx ?_; exact BK227.out⟩, ⟨by repeat (first | (with_reducible first | exact HB.out | apply below_alloc | apply pw_below_drewN | apply below_drew1 | refine below_set ?_ GE227.out) | exact HB.out)⟩⟩
 case rest =>
  clear HC7
  try clear c1
  try clear c2
  try clear p2
  try clear c5
  try clear c13
  try clear c17
  try clear c17b0
  try clear c17b1
  try clear c18
  try clear c18b0
  try clear c18b1
  try clear hcz11_0
  try clear hcz11_1
  try clear hcz11_2
  try clear hcz9_0
  try clear hcz9_1
  try clear hcz9_2
  try clear hfz11_0
  try clear hfz11_1
  try clear hfz11_2
  try clear hfz9_0
  try clear hfz9_1
  try clear hfz9_2
  obtain ⟨kq, x56_6, rfl, HA, HJ6, BK227, HB⟩ := hcut
  cases kq with
  | zero => exact absurd HA.out (by simp [withylaw12_fixed.j0])
  | succ kj6 =>
   have H := HA.out
   clear HA
   simp only [withylaw12_fixed.j0] at H
   by_cases c19 : x56_6 = true
   ·subst c19
    have H1 : (none) = some r := by rw [if_pos rfl] at H; exact H
    clear H
    have H := H1
    clear H1
    exact absurd H (by simp)
   replace c19 := Bool.eq_false_iff.mpr c19
   subst c19
   have H1 : ((chain_Decode.f kj6 t228).bind fun bt239 => ((chain_Decode.f kj6 t237).bind fun bt244 => ((withyref01_Repeat.f kj6 0 128).bind fun t249 => ((chain_Decode.f kj6 t249).bind fun bt250 => ((withyref01_Repeat.f kj6 1 113).bind fun t255 => ((chain_Parts.f kj6 t255 128).bind fun t256 => (if 0 < (t228.size : Int) then (if (bt t228 0) = 4 then (if 2 < (t228.size : Int) then (if (bt t228 2) = 3 then (if 16 ≤ 20 then (if 20 ≤ (t228.size : Int) then (if (t228.extract 16 20).toList = ([97, 98, 99, 0] : List UInt8) then (if t231 = 4 then (if t233 = 3 then (if t235 = 3 then (if (bt239.1 == 5 && (bt239.2.1 == 0 && (bt239.2.2.1.toList == (⟨#[97, 98, 99]⟩ : ByteArray).toList))) = true then (if bt239.2.2.2 = 0 then (if bt244.2.1 = 6 then (if (bt244.2.2.1.size : Int) = 112 then (if bt244.2.2.2 = 0 then (if bt250.2.2.2 = 3 then (if (t256.length : Int) = 2 then (if 0 < (t256.length : Int) then (if ((rdOf ByteArray.empty t256 0).size : Int) = 112 then (if 1 < (t256.length : Int) then (if ((rdOf ByteArray.empty t256 1).size : Int) = 1 then ((chain_Pages.f 113 128).bind fun t261 => (if t261 = 2 then ((chain_Pages.f 112 128).bind fun t262 => (if t262 = 1 then ((chain_Pages.f 0 128).bind fun t263 => (if t263 = 0 then ((chain_Parts.f kj6 (⟨#[]⟩ : ByteArray) 128).bind fun t264 => (if (t264.length : Int) = 0 then ((chain_May.f 5 0 (⟨#[97, 98, 99]⟩ : ByteArray) 128).bind fun t267 => (if t267 = true then ((chain_May.f 0 0 (⟨#[]⟩ : ByteArray) 128).bind fun t268 => (some (!t268))) else (none))) else (none))) else (none))) else (none))) else (none))) else (none)) else (none)) else (none)) else (none)) else (none)) else (none)) else (none)) else (none)) else (none)) else (none)) else (none)) else (none)) else (none)) else (none)) else (none)) else (none)) else (none)) else (none)) else (none)) else (none)) else (none)))))))) = some r := by rw [if_neg (show ¬ (false = true) by decide)] at H; exact H
   clear H
   have H := H1
   clear H1
   replace H := bM H
   obtain ⟨⟨t239, t240, t241, t242⟩, A200, H⟩ := H
   replace H : ((chain_Decode.f kj6 t237).bind fun bt244 => ((withyref01_Repeat.f kj6 0 128).bind fun t249 => ((chain_Decode.f kj6 t249).bind fun bt250 => ((withyref01_Repeat.f kj6 1 113).bind fun t255 => ((chain_Parts.f kj6 t255 128).bind fun t256 => (if 0 < (t228.size : Int) then (if (bt t228 0) = 4 then (if 2 < (t228.size : Int) then (if (bt t228 2) = 3 then (if 16 ≤ 20 then (if 20 ≤ (t228.size : Int) then (if (t228.extract 16 20).toList = ([97, 98, 99, 0] : List UInt8) then (if t231 = 4 then (if t233 = 3 then (if t235 = 3 then (if (t239 == 5 && (t240 == 0 && (t241.toList == (⟨#[97, 98, 99]⟩ : ByteArray).toList))) = true then (if t242 = 0 then (if bt244.2.1 = 6 then (if (bt244.2.2.1.size : Int) = 112 then (if bt244.2.2.2 = 0 then (if bt250.2.2.2 = 3 then (if (t256.length : Int) = 2 then (if 0 < (t256.length : Int) then (if ((rdOf ByteArray.empty t256 0).size : Int) = 112 then (if 1 < (t256.length : Int) then (if ((rdOf ByteArray.empty t256 1).size : Int) = 1 then ((chain_Pages.f 113 128).bind fun t261 => (if t261 = 2 then ((chain_Pages.f 112 128).bind fun t262 => (if t262 = 1 then ((chain_Pages.f 0 128).bind fun t263 => (if t263 = 0 then ((chain_Parts.f kj6 (⟨#[]⟩ : ByteArray) 128).bind fun t264 => (if (t264.length : Int) = 0 then ((chain_May.f 5 0 (⟨#[97, 98, 99]⟩ : ByteArray) 128).bind fun t267 => (if t267 = true then ((chain_May.f 0 0 (⟨#[]⟩ : ByteArray) 128).bind fun t268 => (some (!t268))) else (none))) else (none))) else (none))) else (none))) else (none))) else (none)) else (none)) else (none)) else (none)) else (none)) else (none)) else (none)) else (none)) else (none)) else (none)) else (none)) else (none)) else (none)) else (none)) else (none)) else (none)) else (none)) else (none)) else (none)) else (none)) else (none))))))) = some r := H
   have A20 := Aside0.mk A200
   clear A200
   replace H := bM H
   obtain ⟨⟨t244, t245, t246, t247⟩, A210, H⟩ := H
   replace H : ((withyref01_Repeat.f kj6 0 128).bind fun t249 => ((chain_Decode.f kj6 t249).bind fun bt250 => ((withyref01_Repeat.f kj6 1 113).bind fun t255 => ((chain_Parts.f kj6 t255 128).bind fun t256 => (if 0 < (t228.size : Int) then (if (bt t228 0) = 4 then (if 2 < (t228.size : Int) then (if (bt t228 2) = 3 then (if 16 ≤ 20 then (if 20 ≤ (t228.size : Int) then (if (t228.extract 16 20).toList = ([97, 98, 99, 0] : List UInt8) then (if t231 = 4 then (if t233 = 3 then (if t235 = 3 then (if (t239 == 5 && (t240 == 0 && (t241.toList == (⟨#[97, 98, 99]⟩ : ByteArray).toList))) = true then (if t242 = 0 then (if t245 = 6 then (if (t246.size : Int) = 112 then (if t247 = 0 then (if bt250.2.2.2 = 3 then (if (t256.length : Int) = 2 then (if 0 < (t256.length : Int) then (if ((rdOf ByteArray.empty t256 0).size : Int) = 112 then (if 1 < (t256.length : Int) then (if ((rdOf ByteArray.empty t256 1).size : Int) = 1 then ((chain_Pages.f 113 128).bind fun t261 => (if t261 = 2 then ((chain_Pages.f 112 128).bind fun t262 => (if t262 = 1 then ((chain_Pages.f 0 128).bind fun t263 => (if t263 = 0 then ((chain_Parts.f kj6 (⟨#[]⟩ : ByteArray) 128).bind fun t264 => (if (t264.length : Int) = 0 then ((chain_May.f 5 0 (⟨#[97, 98, 99]⟩ : ByteArray) 128).bind fun t267 => (if t267 = true then ((chain_May.f 0 0 (⟨#[]⟩ : ByteArray) 128).bind fun t268 => (some (!t268))) else (none))) else (none))) else (none))) else (none))) else (none))) else (none)) else (none)) else (none)) else (none)) else (none)) else (none)) else (none)) else (none)) else (none)) else (none)) else (none)) else (none)) else (none)) else (none)) else (none)) else (none)) else (none)) else (none)) else (none)) else (none)) else (none)))))) = some r := H
   have A21 := Aside0.mk A210
   clear A210
   replace H := bM H
   obtain ⟨t249, A220, H⟩ := H
   replace H : ((chain_Decode.f kj6 t249).bind fun bt250 => ((withyref01_Repeat.f kj6 1 113).bind fun t255 => ((chain_Parts.f kj6 t255 128).bind fun t256 => (if 0 < (t228.size : Int) then (if (bt t228 0) = 4 then (if 2 < (t228.size : Int) then (if (bt t228 2) = 3 then (if 16 ≤ 20 then (if 20 ≤ (t228.size : Int) then (if (t228.extract 16 20).toList = ([97, 98, 99, 0] : List UInt8) then (if t231 = 4 then (if t233 = 3 then (if t235 = 3 then (if (t239 == 5 && (t240 == 0 && (t241.toList == (⟨#[97, 98, 99]⟩ : ByteArray).toList))) = true then (if t242 = 0 then (if t245 = 6 then (if (t246.size : Int) = 112 then (if t247 = 0 then (if bt250.2.2.2 = 3 then (if (t256.length : Int) = 2 then (if 0 < (t256.length : Int) then (if ((rdOf ByteArray.empty t256 0).size : Int) = 112 then (if 1 < (t256.length : Int) then (if ((rdOf ByteArray.empty t256 1).size : Int) = 1 then ((chain_Pages.f 113 128).bind fun t261 => (if t261 = 2 then ((chain_Pages.f 112 128).bind fun t262 => (if t262 = 1 then ((chain_Pages.f 0 128).bind fun t263 => (if t263 = 0 then ((chain_Parts.f kj6 (⟨#[]⟩ : ByteArray) 128).bind fun t264 => (if (t264.length : Int) = 0 then ((chain_May.f 5 0 (⟨#[97, 98, 99]⟩ : ByteArray) 128).bind fun t267 => (if t267 = true then ((chain_May.f 0 0 (⟨#[]⟩ : ByteArray) 128).bind fun t268 => (some (!t268))) else (none))) else (none))) else (none))) else (none))) else (none))) else (none)) else (none)) else (none)) else (none)) else (none)) else (none)) else (none)) else (none)) else (none)) else (none)) else (none)) else (none)) else (none)) else (none)) else (none)) else (none)) else (none)) else (none)) else (none)) else (none)) else (none))))) = some r := H
   have A22 := Aside0.mk A220
   clear A220
   replace H := bM H
   obtain ⟨⟨t250, t251, t252, t253⟩, A230, H⟩ := H
   replace H : ((withyref01_Repeat.f kj6 1 113).bind fun t255 => ((chain_Parts.f kj6 t255 128).bind fun t256 => (if 0 < (t228.size : Int) then (if (bt t228 0) = 4 then (if 2 < (t228.size : Int) then (if (bt t228 2) = 3 then (if 16 ≤ 20 then (if 20 ≤ (t228.size : Int) then (if (t228.extract 16 20).toList = ([97, 98, 99, 0] : List UInt8) then (if t231 = 4 then (if t233 = 3 then (if t235 = 3 then (if (t239 == 5 && (t240 == 0 && (t241.toList == (⟨#[97, 98, 99]⟩ : ByteArray).toList))) = true then (if t242 = 0 then (if t245 = 6 then (if (t246.size : Int) = 112 then (if t247 = 0 then (if t253 = 3 then (if (t256.length : Int) = 2 then (if 0 < (t256.length : Int) then (if ((rdOf ByteArray.empty t256 0).size : Int) = 112 then (if 1 < (t256.length : Int) then (if ((rdOf ByteArray.empty t256 1).size : Int) = 1 then ((chain_Pages.f 113 128).bind fun t261 => (if t261 = 2 then ((chain_Pages.f 112 128).bind fun t262 => (if t262 = 1 then ((chain_Pages.f 0 128).bind fun t263 => (if t263 = 0 then ((chain_Parts.f kj6 (⟨#[]⟩ : ByteArray) 128).bind fun t264 => (if (t264.length : Int) = 0 then ((chain_May.f 5 0 (⟨#[97, 98, 99]⟩ : ByteArray) 128).bind fun t267 => (if t267 = true then ((chain_May.f 0 0 (⟨#[]⟩ : ByteArray) 128).bind fun t268 => (some (!t268))) else (none))) else (none))) else (none))) else (none))) else (none))) else (none)) else (none)) else (none)) else (none)) else (none)) else (none)) else (none)) else (none)) else (none)) else (none)) else (none)) else (none)) else (none)) else (none)) else (none)) else (none)) else (none)) else (none)) else (none)) else (none)) else (none)))) = some r := H
   have A23 := Aside0.mk A230
   clear A230
   replace H := bM H
   obtain ⟨t255, A240, H⟩ := H
   replace H : ((chain_Parts.f kj6 t255 128).bind fun t256 => (if 0 < (t228.size : Int) then (if (bt t228 0) = 4 then (if 2 < (t228.size : Int) then (if (bt t228 2) = 3 then (if 16 ≤ 20 then (if 20 ≤ (t228.size : Int) then (if (t228.extract 16 20).toList = ([97, 98, 99, 0] : List UInt8) then (if t231 = 4 then (if t233 = 3 then (if t235 = 3 then (if (t239 == 5 && (t240 == 0 && (t241.toList == (⟨#[97, 98, 99]⟩ : ByteArray).toList))) = true then (if t242 = 0 then (if t245 = 6 then (if (t246.size : Int) = 112 then (if t247 = 0 then (if t253 = 3 then (if (t256.length : Int) = 2 then (if 0 < (t256.length : Int) then (if ((rdOf ByteArray.empty t256 0).size : Int) = 112 then (if 1 < (t256.length : Int) then (if ((rdOf ByteArray.empty t256 1).size : Int) = 1 then ((chain_Pages.f 113 128).bind fun t261 => (if t261 = 2 then ((chain_Pages.f 112 128).bind fun t262 => (if t262 = 1 then ((chain_Pages.f 0 128).bind fun t263 => (if t263 = 0 then ((chain_Parts.f kj6 (⟨#[]⟩ : ByteArray) 128).bind fun t264 => (if (t264.length : Int) = 0 then ((chain_May.f 5 0 (⟨#[97, 98, 99]⟩ : ByteArray) 128).bind fun t267 => (if t267 = true then ((chain_May.f 0 0 (⟨#[]⟩ : ByteArray) 128).bind fun t268 => (some (!t268))) else (none))) else (none))) else (none))) else (none))) else (none))) else (none)) else (none)) else (none)) else (none)) else (none)) else (none)) else (none)) else (none)) else (none)) else (none)) else (none)) else (none)) else (none)) else (none)) else (none)) else (none)) else (none)) else (none)) else (none)) else (none)) else (none))) = some r := H
   have A24 := Aside0.mk A240
   clear A240
   replace H := bM H
   obtain ⟨t256, A250, H⟩ := H
   replace H : (if 0 < (t228.size : Int) then (if (bt t228 0) = 4 then (if 2 < (t228.size : Int) then (if (bt t228 2) = 3 then (if 16 ≤ 20 then (if 20 ≤ (t228.size : Int) then (if (t228.extract 16 20).toList = ([97, 98, 99, 0] : List UInt8) then (if t231 = 4 then (if t233 = 3 then (if t235 = 3 then (if (t239 == 5 && (t240 == 0 && (t241.toList == (⟨#[97, 98, 99]⟩ : ByteArray).toList))) = true then (if t242 = 0 then (if t245 = 6 then (if (t246.size : Int) = 112 then (if t247 = 0 then (if t253 = 3 then (if (t256.length : Int) = 2 then (if 0 < (t256.length : Int) then (if ((rdOf ByteArray.empty t256 0).size : Int) = 112 then (if 1 < (t256.length : Int) then (if ((rdOf ByteArray.empty t256 1).size : Int) = 1 then ((chain_Pages.f 113 128).bind fun t261 => (if t261 = 2 then ((chain_Pages.f 112 128).bind fun t262 => (if t262 = 1 then ((chain_Pages.f 0 128).bind fun t263 => (if t263 = 0 then ((chain_Parts.f kj6 (⟨#[]⟩ : ByteArray) 128).bind fun t264 => (if (t264.length : Int) = 0 then ((chain_May.f 5 0 (⟨#[97, 98, 99]⟩ : ByteArray) 128).bind fun t267 => (if t267 = true then ((chain_May.f 0 0 (⟨#[]⟩ : ByteArray) 128).bind fun t268 => (some (!t268))) else (none))) else (none))) else (none))) else (none))) else (none))) else (none)) else (none)) else (none)) else (none)) else (none)) else (none)) else (none)) else (none)) else (none)) else (none)) else (none)) else (none)) else (none)) else (none)) else (none)) else (none)) else (none)) else (none)) else (none)) else (none)) else (none)) = some r := H
   have A25 := Aside0.mk A250
   clear A250
   by_cases c26 : 0 < (t228.size : Int)
   rotate_left
   ·rw [if_neg c26] at H
    exact absurd H (by simp)
 
   rw [if_pos c26] at H
   have c26b0 : decide (0 < (t228.size : Int)) = true := decide_eq_true c26
   have c26b1 : decide (0 < t228.size) = true := decide_eq_true (by omega)
   clear c26
   by_cases c28 : (bt t228 0) = 4
   rotate_left
   ·rw [if_neg c28] at H
    exact absurd H (by simp)
   rw [if_pos c28] at H
   have c28b0 : ((bt t228 0) == 4) = true := beq_iff_eq.mpr c28
   have c28b1 : ((bt t228 0) != 4) = false := bne_eq_false_iff_eq.mpr c28
   clear c28
   by_cases c29 : 2 < (t228.size : Int)
   rotate_left
   ·rw [if_neg c29] at H
    exact absurd H (by simp)
   rw [if_pos c29] at H
   have c29b0 : decide (2 < (t228.size : Int)) = true := decide_eq_true c29
   have c29b1 : decide (2 < t228.size) = true := decide_eq_true (by omega)
   clear c29
   by_cases c31 : (bt t228 2) = 3
   rotate_left
   ·rw [if_neg c31] at H
    exact absurd H (by simp)
   rw [if_pos c31] at H
   have c31b0 : ((bt t228 2) == 3) = true := beq_iff_eq.mpr c31
   have c31b1 : ((bt t228 2) != 3) = false := bne_eq_false_iff_eq.mpr c31
   clear c31
   by_cases c32 : 16 ≤ 20
   rotate_left
   ·rw [if_neg c32] at H
    exact absurd H (by simp)
   rw [if_pos c32] at H
   have c32b0 := eq_true c32
   have c32b1 : decide (16 ≤ 20) = true := decide_eq_true c32
   clear c32
   by_cases c33 : 20 ≤ (t228.size : Int)
   rotate_left
   ·rw [if_neg c33] at H
    exact absurd H (by simp)
   rw [if_pos c33] at H
   have c33b0 := eq_true c33
   have c33b1 : decide (20 ≤ (t228.size : Int)) = true := decide_eq_true c33
   clear c33
   obtain ⟨js34, hjs34⟩ : ∃ j_ : ByteArray, (t228.extract 16 20) = j_ := ⟨_, rfl⟩
   replace H : (if (js34).toList = ([97, 98, 99, 0] : List UInt8) then (if t231 = 4 then (if t233 = 3 then (if t235 = 3 then (if (t239 == 5 && (t240 == 0 && (t241.toList == (⟨#[97, 98, 99]⟩ : ByteArray).toList))) = true then (if t242 = 0 then (if t245 = 6 then (if (t246.size : Int) = 112 then (if t247 = 0 then (if t253 = 3 then (if (t256.length : Int) = 2 then (if 0 < (t256.length : Int) then (if ((rdOf ByteArray.empty t256 0).size : Int) = 112 then (if 1 < (t256.length : Int) then (if ((rdOf ByteArray.empty t256 1).size : Int) = 1 then ((chain_Pages.f 113 128).bind fun t261 => (if t261 = 2 then ((chain_Pages.f 112 128).bind fun t262 => (if t262 = 1 then ((chain_Pages.f 0 128).bind fun t263 => (if t263 = 0 then ((chain_Parts.f kj6 (⟨#[]⟩ : ByteArray) 128).bind fun t264 => (if (t264.length : Int) = 0 then ((chain_May.f 5 0 (⟨#[97, 98, 99]⟩ : ByteArray) 128).bind fun t267 => (if t267 = true then ((chain_May.f 0 0 (⟨#[]⟩ : ByteArray) 128).bind fun t268 => (some (!t268))) else (none))) else (none))) else (none))) else (none))) else (none))) else (none)) else (none)) else (none)) else (none)) else (none)) else (none)) else (none)) else (none)) else (none)) else (none)) else (none)) else (none)) else (none)) else (none)) else (none)) = some r := by first | (rw [hjs34] at H; exact H) | (simp only [hjs34] at H ⊢; exact H)
   (try rw [hjs34] at A20)
   (try rw [hjs34] at A21)
   (try rw [hjs34] at A22)
   (try rw [hjs34] at A23)
   (try rw [hjs34] at A24)
   (try rw [hjs34] at A25)
   by_cases c35 : (js34).toList = ([97, 98, 99, 0] : List UInt8)
   rotate_left
   ·rw [if_neg c35] at H
    exact absurd H (by simp)
   rw [if_pos c35] at H
   have c35b0 : ((js34).toList == ([97, 98, 99, 0] : List UInt8)) = true := beq_iff_eq.mpr c35
   have c35b1 : ((js34).toList != ([97, 98, 99, 0] : List UInt8)) = false := bne_eq_false_iff_eq.mpr c35
   clear c35
   by_cases c36 : t231 = 4
   rotate_left
   ·rw [if_neg c36] at H
    exact absurd H (by simp)
   rw [if_pos c36] at H
   have c36b0 : (t231 == 4) = true := beq_iff_eq.mpr c36
   have c36b1 : (t231 != 4) = false := bne_eq_false_iff_eq.mpr c36
   clear c36
   by_cases c37 : t233 = 3
   rotate_left
   ·rw [if_neg c37] at H
    exact absurd H (by simp)
   rw [if_pos c37] at H
   have c37b0 : (t233 == 3) = true := beq_iff_eq.mpr c37
   have c37b1 : (t233 != 3) = false := bne_eq_false_iff_eq.mpr c37
   clear c37
   by_cases c38 : t235 = 3
   rotate_left
   ·rw [if_neg c38] at H
    exact absurd H (by simp)
   rw [if_pos c38] at H
   have c38b0 : (t235 == 3) = true := beq_iff_eq.mpr c38
   have c38b1 : (t235 != 3) = false := bne_eq_false_iff_eq.mpr c38
   clear c38
   by_cases c39 : (t239 == 5 && (t240 == 0 && (t241.toList == (⟨#[97, 98, 99]⟩ : ByteArray).toList))) = true
   rotate_left
   ·rw [if_neg c39] at H
    exact absurd H (by simp)
   rw [if_pos c39] at H
   have c39b0 : (t239 == 5 && (t240 == 0 && (t241.toList == (⟨#[97, 98, 99]⟩ : ByteArray).toList))) = true := c39
   (try (have c39b8 : (t239 = 5 ∧ t240 = 0 ∧ t241.toList = [97, 98, 99]) = True := eq_true (by simpa using c39)))
   (try (have c39b1 : t239 = 5 && (t240 == 0 && (t241.toList == (⟨#[97, 98, 99]⟩ : ByteArray).toList)) := by simpa using c39))
   (try (have c39b2 : decide (t239 = 5 && (t240 == 0 && (t241.toList == (⟨#[97, 98, 99]⟩ : ByteArray).toList))) = true := by simpa using c39))
   (try (have c39b3 : (t239 == 5 && (t240 == 0 && (t241.toList == (⟨#[97, 98, 99]⟩ : ByteArray).toList))) = true := by simpa using c39))
   clear c39
   by_cases c40 : t242 = 0
   rotate_left
   ·rw [if_neg c40] at H
    exact absurd H (by simp)
   rw [if_pos c40] at H
   have c40b0 : (t242 == 0) = true := beq_iff_eq.mpr c40
   have c40b1 : (t242 != 0) = false := bne_eq_false_iff_eq.mpr c40
   clear c40
   by_cases c41 : t245 = 6
   rotate_left
   ·rw [if_neg c41] at H
    exact absurd H (by simp)
   rw [if_pos c41] at H
   have c41b0 : (t245 == 6) = true := beq_iff_eq.mpr c41
   have c41b1 : (t245 != 6) = false := bne_eq_false_iff_eq.mpr c41
   clear c41
   by_cases c42 : (t246.size : Int) = 112
   rotate_left
   ·rw [if_neg c42] at H
    exact absurd H (by simp)
   rw [if_pos c42] at H
   have c42b0 : ((t246.size : Int) == 112) = true := beq_iff_eq.mpr c42
   have c42b1 : ((t246.size : Int) != 112) = false := bne_eq_false_iff_eq.mpr c42
   clear c42
   by_cases c43 : t247 = 0
   rotate_left
   ·rw [if_neg c43] at H
    exact absurd H (by simp)
   rw [if_pos c43] at H
   have c43b0 : (t247 == 0) = true := beq_iff_eq.mpr c43
   have c43b1 : (t247 != 0) = false := bne_eq_false_iff_eq.mpr c43
   clear c43
   by_cases c44 : t253 = 3
   rotate_left
   ·rw [if_neg c44] at H
    exact absurd H (by simp)
   rw [if_pos c44] at H
   have c44b0 : (t253 == 3) = true := beq_iff_eq.mpr c44
   have c44b1 : (t253 != 3) = false := bne_eq_false_iff_eq.mpr c44
   clear c44
   by_cases c45 : (t256.length : Int) = 2
   rotate_left
   ·rw [if_neg c45] at H
    exact absurd H (by simp)
   rw [if_pos c45] at H
   have c45b0 : ((t256.length : Int) == 2) = true := beq_iff_eq.mpr c45
   have c45b1 : ((t256.length : Int) != 2) = false := bne_eq_false_iff_eq.mpr c45
   clear c45
   by_cases c46 : 0 < (t256.length : Int)
   rotate_left
   ·rw [if_neg c46] at H
    exact absurd H (by simp)
   rw [if_pos c46] at H
   have c46b0 : decide (0 < (t256.length : Int)) = true := decide_eq_true c46
   have c46b1 : decide (0 < t256.length) = true := decide_eq_true (by omega)
   clear c46
   by_cases c47 : ((rdOf ByteArray.empty t256 0).size : Int) = 112
   rotate_left
   ·rw [if_neg c47] at H
    exact absurd H (by simp)
   rw [if_pos c47] at H
   have c47b0 : (((rdOf ByteArray.empty t256 0).size : Int) == 112) = true := beq_iff_eq.mpr c47
   have c47b1 : (((rdOf ByteArray.empty t256 0).size : Int) != 112) = false := bne_eq_false_iff_eq.mpr c47
   clear c47
   by_cases c48 : 1 < (t256.length : Int)
   rotate_left
   ·rw [if_neg c48] at H
    exact absurd H (by simp)
   rw [if_pos c48] at H
   have c48b0 : decide (1 < (t256.length : Int)) = true := decide_eq_true c48
   have c48b1 : decide (1 < t256.length) = true := decide_eq_true (by omega)
   clear c48
   by_cases c49 : ((rdOf ByteArray.empty t256 1).size : Int) = 1
   rotate_left
   ·rw [if_neg c49] at H
    exact absurd H (by simp)
   rw [if_pos c49] at H
   have c49b0 : (((rdOf ByteArray.empty t256 1).size : Int) == 1) = true := beq_iff_eq.mpr c49
   have c49b1 : (((rdOf ByteArray.empty t256 1).size : Int) != 1) = false := bne_eq_false_iff_eq.mpr c49
   clear c49
   replace H := bM H
   obtain ⟨t261, A500, H⟩ := H
   replace H : (if t261 = 2 then ((chain_Pages.f 112 128).bind fun t262 => (if t262 = 1 then ((chain_Pages.f 0 128).bind fun t263 => (if t263 = 0 then ((chain_Parts.f kj6 (⟨#[]⟩ : ByteArray) 128).bind fun t264 => (if (t264.length : Int) = 0 then ((chain_May.f 5 0 (⟨#[97, 98, 99]⟩ : ByteArray) 128).bind fun t267 => (if t267 = true then ((chain_May.f 0 0 (⟨#[]⟩ : ByteArray) 128).bind fun t268 => (some (!t268))) else (none))) else (none))) else (none))) else (none))) else (none)) = some r := H
   have A50 := Aside0.mk A500
   clear A500
   by_cases c51 : t261 = 2
   rotate_left
   ·rw [if_neg c51] at H
    exact absurd H (by simp)
   rw [if_pos c51] at H
   have c51b0 : (t261 == 2) = true := beq_iff_eq.mpr c51
   have c51b1 : (t261 != 2) = false := bne_eq_false_iff_eq.mpr c51
   clear c51
   replace H := bM H
   obtain ⟨t262, A520, H⟩ := H
   replace H : (if t262 = 1 then ((chain_Pages.f 0 128).bind fun t263 => (if t263 = 0 then ((chain_Parts.f kj6 (⟨#[]⟩ : ByteArray) 128).bind fun t264 => (if (t264.length : Int) = 0 then ((chain_May.f 5 0 (⟨#[97, 98, 99]⟩ : ByteArray) 128).bind fun t267 => (if t267 = true then ((chain_May.f 0 0 (⟨#[]⟩ : ByteArray) 128).bind fun t268 => (some (!t268))) else (none))) else (none))) else (none))) else (none)) = some r := H
   have A52 := Aside0.mk A520
   clear A520
   by_cases c53 : t262 = 1
   rotate_left
   ·rw [if_neg c53] at H
    exact absurd H (by simp)
   rw [if_pos c53] at H
   have c53b0 : (t262 == 1) = true := beq_iff_eq.mpr c53
   have c53b1 : (t262 != 1) = false := bne_eq_false_iff_eq.mpr c53
   clear c53
   replace H := bM H
   obtain ⟨t263, A540, H⟩ := H
   replace H : (if t263 = 0 then ((chain_Parts.f kj6 (⟨#[]⟩ : ByteArray) 128).bind fun t264 => (if (t264.length : Int) = 0 then ((chain_May.f 5 0 (⟨#[97, 98, 99]⟩ : ByteArray) 128).bind fun t267 => (if t267 = true then ((chain_May.f 0 0 (⟨#[]⟩ : ByteArray) 128).bind fun t268 => (some (!t268))) else (none))) else (none))) else (none)) = some r := H
   have A54 := Aside0.mk A540
   clear A540
   by_cases c55 : t263 = 0
   rotate_left
   ·rw [if_neg c55] at H
    exact absurd H (by simp)
   rw [if_pos c55] at H
   have c55b0 : (t263 == 0) = true := beq_iff_eq.mpr c55
   have c55b1 : (t263 != 0) = false := bne_eq_false_iff_eq.mpr c55
   clear c55
   replace H := bM H
   obtain ⟨t264, A560, H⟩ := H
   replace H : (if (t264.length : Int) = 0 then ((chain_May.f 5 0 (⟨#[97, 98, 99]⟩ : ByteArray) 128).bind fun t267 => (if t267 = true then ((chain_May.f 0 0 (⟨#[]⟩ : ByteArray) 128).bind fun t268 => (some (!t268))) else (none))) else (none)) = some r := H
   have A56 := Aside0.mk A560
   clear A560
   by_cases c57 : (t264.length : Int) = 0
   rotate_left
   ·rw [if_neg c57] at H
    exact absurd H (by simp)
   rw [if_pos c57] at H
   have c57b0 : ((t264.length : Int) == 0) = true := beq_iff_eq.mpr c57
   have c57b1 : ((t264.length : Int) != 0) = false := bne_eq_false_iff_eq.mpr c57
   clear c57
   replace H := bM H
   obtain ⟨t267, A580, H⟩ := H
   replace H : (if t267 = true then ((chain_May.f 0 0 (⟨#[]⟩ : ByteArray) 128).bind fun t268 => (some (!t268))) else (none)) = some r := H
   have A58 := Aside0.mk A580
   clear A580
   by_cases c59 : t267 = true
   rotate_left
   ·replace c59 := Bool.eq_false_iff.mpr c59
    subst c59
    have H1 : (none) = some r := by rw [if_neg (show ¬ (false = true) by decide)] at H; exact H
    clear H
    have H := H1
    clear H1
    exact absurd H (by simp)
   subst c59
   have H1 : ((chain_May.f 0 0 (⟨#[]⟩ : ByteArray) 128).bind fun t268 => (some (!t268))) = some r := by rw [if_pos rfl] at H; exact H
   clear H
   have H := H1
   clear H1
   replace H := bM H
   obtain ⟨t268, A600, H⟩ := H
   replace H : (some (!t268)) = some r := H
   have A60 := Aside0.mk A600
   clear A600
   obtain rfl := Option.some.inj H
   go_wp2_with (first | ((with_reducible refine gate_callee (f := 8) rfl ?_); refine goesL_ (some 59) rfl rfl Tryz.func8 (by kernel_rfl) rfl #[.string t228] rfl aO ?_; (with_reducible refine (chain_Decode.calls kj6 t228 t239 t240 t241 t242 _ A20.out).mono ?_); rintro e w61 ⟨rfl, hb⟩; clear A20; refine ⟨_, rfl, ?_⟩; replace BK227 := as_ (blk_below (g := gb227) (o := .cells #[.int .i64 5, .int .i64 0, .string (⟨#[97, 98, 99]⟩ : ByteArray)] 23 (0, 0)) (bk BK227) hb); replace HB := as_ (below_step bA hb); (try clear hb); (try clear hb2); (try clear hk); (try clear hi)) | ((with_reducible refine gate_dst (N := 12) rfl ?_); (try (refine gate_guard (by rfl) ?_; dsimp only)); refine box_event ?hg (N := 12) ?hd (cs := #[.int .i64 0, .int .i64 0, .string (⟨#[]⟩ : ByteArray)]) (t := 23) ?hr ?_; (case hd => rfl); (case hg => rfl); (case hr => first | (go_simp; done) | (go_simp; rfl)); intro gb243 hg w62 hbox hb; have BK243 := as_ (hbox); have GW243 := gw hg bA; have GE243 := gw hg bA; have NB227_243 := as_ ((by rw [hg]; exact Nat.ne_of_lt (blk_lt (g := gb227) (o := .cells #[.int .i64 5, .int .i64 0, .string (⟨#[97, 98, 99]⟩ : ByteArray)] 23 (0, 0)) (bk BK227)) : gb227 ≠ gb243)); have NB243_227 := as_ ((by rw [hg]; exact Nat.ne_of_gt (blk_lt (g := gb227) (o := .cells #[.int .i64 5, .int .i64 0, .string (⟨#[97, 98, 99]⟩ : ByteArray)] 23 (0, 0)) (bk BK227)) : gb243 ≠ gb227)); replace BK227 := as_ (blk_below (g := gb227) (o := .cells #[.int .i64 5, .int .i64 0, .string (⟨#[97, 98, 99]⟩ : ByteArray)] 23 (0, 0)) (bk BK227) hb); replace HB := as_ (below_step bA hb); clear hb hbox hg; have hnb63 := NB243_227.out; have hnc63 := NB227_243.out; obtain ⟨hcz64_0, hcz64_1, hcz64_2⟩ := zc3 BK243; obtain ⟨hfz64_0, hfz64_1, hfz64_2⟩ := zf3 BK243) | ((with_reducible refine gate_callee (f := 8) rfl ?_); refine goesL_ (some 64) rfl rfl Tryz.func8 (by kernel_rfl) rfl #[.string t237] rfl aO ?_; (with_reducible refine (chain_Decode.calls kj6 t237 t244 t245 t246 t247 _ A21.out).mono ?_); rintro e w65 ⟨rfl, hb⟩; clear A21; refine ⟨_, rfl, ?_⟩; replace BK227 := as_ (blk_below (g := gb227) (o := .cells #[.int .i64 5, .int .i64 0, .string (⟨#[97, 98, 99]⟩ : ByteArray)] 23 (0, 0)) (by refine bx ?_; refine blk_far ?_ NB227_243.out _; refine bx ?_; refine blk_far ?_ NB227_243.out _; refine bx ?_; refine blk_far ?_ NB227_243.out _; refine bx ?_; exact BK227.out) hb); replace BK243 := as_ (blk_below (g := gb243) (o := .cells #[.int .i64 t239, .int .i64 t240, .string t241] 23 (0, 0)) (by refine bx ?_; refine blk_put (cs := #[.int .i64 t239, .int .i64 t240, .string (⟨#[]⟩ : ByteArray)]) ?_ 2 _ rfl; refine bx ?_; refine blk_put (cs := #[.int .i64 t239, .int .i64 0, .string (⟨#[]⟩ : ByteArray)]) ?_ 1 _ rfl; refine bx ?_; refine blk_put (cs := #[.int .i64 0, .int .i64 0, .string (⟨#[]⟩ : ByteArray)]) ?_ 0 _ rfl; refine bx ?_; exact BK243.out) hb); replace HB := as_ (below_step bA hb); (try clear hb); (try clear hb2); (try clear hk); (try clear hi)) | ((with_reducible refine gate_dst (N := 14) rfl ?_); (try (refine gate_guard (by rfl) ?_; dsimp only)); refine box_event ?hg (N := 14) ?hd (cs := #[.int .i64 0, .int .i64 0, .string (⟨#[]⟩ : ByteArray)]) (t := 23) ?hr ?_; (case hd => rfl); (case hg => rfl); (case hr => first | (go_simp; done) | (go_simp; rfl)); intro gb248 hg w66 hbox hb; have BK248 := as_ (hbox); have GW248 := gw hg bA; have GE248 := gw hg bA; have NB227_248 := as_ ((by rw [hg]; exact Nat.ne_of_lt (blk_lt (g := gb227) (o := .cells #[.int .i64 5, .int .i64 0, .string (⟨#[97, 98, 99]⟩ : ByteArray)] 23 (0, 0)) (bk BK227)) : gb227 ≠ gb248)); have NB248_227 := as_ ((by rw [hg]; exact Nat.ne_of_gt (blk_lt (g := gb227) (o := .cells #[.int .i64 5, .int .i64 0, .string (⟨#[97, 98, 99]⟩ : ByteArray)] 23 (0, 0)) (bk BK227)) : gb248 ≠ gb227)); have NB243_248 := nl BK243 hg; have NB248_243 := ng BK243 hg; replace BK227 := as_ (blk_below (g := gb227) (o := .cells #[.int .i64 5, .int .i64 0, .string (⟨#[97, 98, 99]⟩ : ByteArray)] 23 (0, 0)) (bk BK227) hb); replace BK243 := bb BK243 hb; replace HB := as_ (below_step bA hb); clear hb hbox hg; have hnb67 := NB248_227.out; have hnc67 := NB227_248.out; have hnb68 := NB248_243.out; have hnc68 := NB243_248.out; obtain ⟨hcz69_0, hcz69_1, hcz69_2⟩ := zc3 BK248; obtain ⟨hfz69_0, hfz69_1, hfz69_2⟩ := zf3 BK248) | ((with_reducible refine gate_callee (f := 26) rfl ?_); refine goesL_ (some 68) rfl rfl Tryz.func26 (by kernel_rfl) rfl #[.int .u8 0, .int .i64 128] rfl aO ?_; (with_reducible refine (withyref01_Repeat.calls kj6 0 128 t249 _ A22.out).mono ?_); rintro e w70 ⟨rfl, hb⟩; refine ⟨_, rfl, ?_⟩; replace BK227 := as_ (blk_below (g := gb227) (o := .cells #[.int .i64 5, .int .i64 0, .string (⟨#[97, 98, 99]⟩ : ByteArray)] 23 (0, 0)) (by refine bx ?_; refine blk_far ?_ NB227_248.out _; refine bx ?_; refine blk_far ?_ NB227_248.out _; refine bx ?_; refine blk_far ?_ NB227_248.out _; refine bx ?_; exact BK227.out) hb); replace BK243 := as_ (blk_below (g := gb243) (o := .cells #[.int .i64 t239, .int .i64 t240, .string t241] 23 (0, 0)) (by refine bx ?_; refine blk_far ?_ NB243_248.out _; refine bx ?_; refine blk_far ?_ NB243_248.out _; refine bx ?_; refine blk_far ?_ NB243_248.out _; refine bx ?_; exact BK243.out) hb); replace BK248 := as_ (blk_below (g := gb248) (o := .cells #[.int .i64 t244, .int .i64 t245, .string t246] 23 (0, 0)) (by refine bx ?_; refine blk_put (cs := #[.int .i64 t244, .int .i64 t245, .string (⟨#[]⟩ : ByteArray)]) ?_ 2 _ rfl; refine bx ?_; refine blk_put (cs := #[.int .i64 t244, .int .i64 0, .string (⟨#[]⟩ : ByteArray)]) ?_ 1 _ rfl; refine bx ?_; refine blk_put (cs := #[.int .i64 0, .int .i64 0, .string (⟨#[]⟩ : ByteArray)]) ?_ 0 _ rfl; refine bx ?_; exact BK248.out) hb); replace HB := as_ (below_step bA hb); (try clear hb); (try clear hb2); (try clear hk); (try clear hi)) | ((with_reducible refine gate_callee (f := 8) rfl ?_); refine goesL_ (some 69) rfl rfl Tryz.func8 (by kernel_rfl) rfl #[.string t249] rfl aO ?_; (with_reducible refine (chain_Decode.calls kj6 t249 t250 t251 t252 t253 _ A23.out).mono ?_); rintro e w71 ⟨rfl, hb⟩; clear A23; refine ⟨_, rfl, ?_⟩; replace BK227 := as_ (blk_below (g := gb227) (o := .cells #[.int .i64 5, .int .i64 0, .string (⟨#[97, 98, 99]⟩ : ByteArray)] 23 (0, 0)) (bk BK227) hb); replace BK243 := bb BK243 hb; replace BK248 := bb BK248 hb; replace HB := as_ (below_step bA hb); (try clear hb); (try clear hb2); (try clear hk); (try clear hi)) | ((with_reducible refine gate_dst (N := 16) rfl ?_); (try (refine gate_guard (by rfl) ?_; dsimp only)); refine box_event ?hg (N := 16) ?hd (cs := #[.int .i64 0, .int .i64 0, .string (⟨#[]⟩ : ByteArray)]) (t := 23) ?hr ?_; (case hd => rfl); (case hg => rfl); (case hr => first | (go_simp; done) | (go_simp; rfl)); intro gb254 hg w72 hbox hb; have BK254 := as_ (hbox); have GW254 := gw hg bA; have GE254 := gw hg bA; have NB227_254 := as_ ((by rw [hg]; exact Nat.ne_of_lt (blk_lt (g := gb227) (o := .cells #[.int .i64 5, .int .i64 0, .string (⟨#[97, 98, 99]⟩ : ByteArray)] 23 (0, 0)) (bk BK227)) : gb227 ≠ gb254)); have NB254_227 := as_ ((by rw [hg]; exact Nat.ne_of_gt (blk_lt (g := gb227) (o := .cells #[.int .i64 5, .int .i64 0, .string (⟨#[97, 98, 99]⟩ : ByteArray)] 23 (0, 0)) (bk BK227)) : gb254 ≠ gb227)); have NB243_254 := nl BK243 hg; have NB254_243 := ng BK243 hg; have NB248_254 := nl BK248 hg; have NB254_248 := ng BK248 hg; replace BK227 := as_ (blk_below (g := gb227) (o := .cells #[.int .i64 5, .int .i64 0, .string (⟨#[97, 98, 99]⟩ : ByteArray)] 23 (0, 0)) (bk BK227) hb); replace BK243 := bb BK243 hb; replace BK248 := bb BK248 hb; replace HB := as_ (below_step bA hb); clear hb hbox hg; have hnb73 := NB254_227.out; have hnc73 := NB227_254.out; have hnb74 := NB254_243.out; have hnc74 := NB243_254.out; have hnb75 := NB254_248.out; have hnc75 := NB248_254.out; obtain ⟨hcz76_0, hcz76_1, hcz76_2⟩ := zc3 BK254; obtain ⟨hfz76_0, hfz76_1, hfz76_2⟩ := zf3 BK254) | ((with_reducible refine gate_callee (f := 26) rfl ?_); refine goesL_ (some 72) rfl rfl Tryz.func26 (by kernel_rfl) rfl #[.int .u8 1, .int .i64 113] rfl aO ?_; (with_reducible refine (withyref01_Repeat.calls kj6 1 113 t255 _ A24.out).mono ?_); rintro e w77 ⟨rfl, hb⟩; refine ⟨_, rfl, ?_⟩; replace BK227 := as_ (blk_below (g := gb227) (o := .cells #[.int .i64 5, .int .i64 0, .string (⟨#[97, 98, 99]⟩ : ByteArray)] 23 (0, 0)) (by refine bx ?_; refine blk_far ?_ NB227_254.out _; refine bx ?_; refine blk_far ?_ NB227_254.out _; refine bx ?_; refine blk_far ?_ NB227_254.out _; refine bx ?_; exact BK227.out) hb); replace BK243 := as_ (blk_below (g := gb243) (o := .cells #[.int .i64 t239, .int .i64 t240, .string t241] 23 (0, 0)) (by refine bx ?_; refine blk_far ?_ NB243_254.out _; refine bx ?_; refine blk_far ?_ NB243_254.out _; refine bx ?_; refine blk_far ?_ NB243_254.out _; refine bx ?_; exact BK243.out) hb); replace BK248 := as_ (blk_below (g := gb248) (o := .cells #[.int .i64 t244, .int .i64 t245, .string t246] 23 (0, 0)) (by refine bx ?_; refine blk_far ?_ NB248_254.out _; refine bx ?_; refine blk_far ?_ NB248_254.out _; refine bx ?_; refine blk_far ?_ NB248_254.out _; refine bx ?_; exact BK248.out) hb); replace BK254 := as_ (blk_below (g := gb254) (o := .cells #[.int .i64 t250, .int .i64 t251, .string t252] 23 (0, 0)) (by refine bx ?_; refine blk_put (cs := #[.int .i64 t250, .int .i64 t251, .string (⟨#[]⟩ : ByteArray)]) ?_ 2 _ rfl; refine bx ?_; refine blk_put (cs := #[.int .i64 t250, .int .i64 0, .string (⟨#[]⟩ : ByteArray)]) ?_ 1 _ rfl; refine bx ?_; refine blk_put (cs := #[.int .i64 0, .int .i64 0, .string (⟨#[]⟩ : ByteArray)]) ?_ 0 _ rfl; refine bx ?_; exact BK254.out) hb); replace HB := as_ (below_step bA hb); (try clear hb); (try clear hb2); (try clear hk); (try clear hi)) | ((with_reducible refine gate_callee (f := 15) rfl ?_); refine goesL_ (some 73) rfl rfl Tryz.func15 (by kernel_rfl) rfl #[.string t255, .int .i64 128] rfl aO ?_; (with_reducible refine (chain_Parts.calls kj6 t255 128 t256 _ A25.out).mono ?_); rintro e w78 ⟨v257, rfl, ho0, hb⟩; refine ⟨_, rfl, ?_⟩; have HO258 := as_ (Kd.R_lower ho0 (below_size bA)); replace BK227 := as_ (blk_below (g := gb227) (o := .cells #[.int .i64 5, .int .i64 0, .string (⟨#[97, 98, 99]⟩ : ByteArray)] 23 (0, 0)) (bk BK227) hb); replace BK243 := bb BK243 hb; replace BK248 := bb BK248 hb; replace BK254 := bb BK254 hb; replace HB := as_ (below_step bA hb); (try clear hb); (try clear hb2); (try clear hk); (try clear hi); (try clear ho0); have p27 : 0 ≤ (0 : Int) := (by omega); have q27 : 0 < t228.size := (by have : (0 : Int) < (t228.size : Int) := of_decide_eq_true aM; omega); have hx27 : ∀ h : 0 < t228.size, ((t228[0]'h).toNat : Int) = bt t228 0 := bt_at t228 0; clear p27; have qi27 : (0 < (t228.size : Int)) = True := eq_true (of_decide_eq_true aM); replace q27 := eq_true q27; have p30 : 0 ≤ (2 : Int) := (by omega); have q30 : 2 < t228.size := (by have : (2 : Int) < (t228.size : Int) := of_decide_eq_true aM; omega); have hx30 : ∀ h : 2 < t228.size, ((t228[2]'h).toNat : Int) = bt t228 2 := bt_at t228 2; clear p30; have qi30 : (2 < (t228.size : Int)) = True := eq_true (of_decide_eq_true aM); replace q30 := eq_true q30; obtain ⟨hcz79_0, hcz79_1, hcz79_2⟩ := zc3 BK243; obtain ⟨hfz79_0, hfz79_1, hfz79_2⟩ := zf3 BK243; obtain ⟨hcz80_0, hcz80_1, hcz80_2⟩ := zc3 BK227; obtain ⟨hfz80_0, hfz80_1, hfz80_2⟩ := zf3 BK227; obtain ⟨hcz81_0, hcz81_1, hcz81_2⟩ := zc3 BK248; obtain ⟨hfz81_0, hfz81_1, hfz81_2⟩ := zf3 BK248; obtain ⟨Ao82, co82, eo82⟩ := Kd.R_slice HO258.out; subst eo82; have p259 : 0 ≤ (0 : Int) := (by omega); have q259 : 0 < (t256.length : Int) := of_decide_eq_true aM; obtain ⟨ad259, e259, hx259_0⟩ := Kd.at_string (Kd.R_reads' HO258.out).2.2 0 p259 q259; cases e259; have qi259 : (0 < t256.length) = True := eq_true (by omega); (try rw [show ((0 : Int)).toNat = 0 from rfl] at hx259_0); (try rw [Addr.add_zero'] at hx259_0); replace p259 := eq_true p259; replace q259 := eq_true q259; have p260 : 0 ≤ (1 : Int) := (by omega); have q260 : 1 < (t256.length : Int) := of_decide_eq_true aM; obtain ⟨ad260, e260, hx260_0⟩ := Kd.at_string (Kd.R_reads' HO258.out).2.2 1 p260 q260; obtain rfl : ad259 = ad260 := (by injection e260); (try simp only [show (1 : Int).toNat = 1 from rfl, Nat.reduceMul, Nat.reduceEqDiff, Go.Addr.add, ↓reduceIte] at hx260_0); have qi260 : (1 < t256.length) = True := eq_true (by omega); (try rw [show ((1 : Int)).toNat = 1 from rfl] at hx260_0); replace p260 := eq_true p260; replace q260 := eq_true q260) | (go_at_call 17; (with_reducible refine (chain_Pages.calls 113 128 t261 _ A50.out).mono ?_); rintro e w83 ⟨rfl, hb⟩; replace HO258 := as_ (Kd.R_below (by (with_reducible repeat (first | apply Kd.R_alloc | apply Kd.R_drewN | apply Kd.R_drew)); exact HO258.out) hb); replace BK227 := as_ (blk_below (g := gb227) (o := .cells #[.int .i64 5, .int .i64 0, .string (⟨#[97, 98, 99]⟩ : ByteArray)] 23 (0, 0)) (bk BK227) hb); replace BK243 := bb BK243 hb; replace BK248 := bb BK248 hb; replace BK254 := bb BK254 hb; replace HB := as_ (below_step bA hb); (try clear hb); (try clear hb2); (try clear hk); (try clear hi)) | (go_at_call 17; (with_reducible refine (chain_Pages.calls 112 128 t262 _ A52.out).mono ?_); rintro e w84 ⟨rfl, hb⟩; replace HO258 := as_ (Kd.R_below (by (with_reducible repeat (first | apply Kd.R_alloc | apply Kd.R_drewN | apply Kd.R_drew)); exact HO258.out) hb); replace BK227 := as_ (blk_below (g := gb227) (o := .cells #[.int .i64 5, .int .i64 0, .string (⟨#[97, 98, 99]⟩ : ByteArray)] 23 (0, 0)) (bk BK227) hb); replace BK243 := bb BK243 hb; replace BK248 := bb BK248 hb; replace BK254 := bb BK254 hb; replace HB := as_ (below_step bA hb); (try clear hb); (try clear hb2); (try clear hk); (try clear hi)) | (go_at_call 17; (with_reducible refine (chain_Pages.calls 0 128 t263 _ A54.out).mono ?_); rintro e w85 ⟨rfl, hb⟩; replace HO258 := as_ (Kd.R_below (by (with_reducible repeat (first | apply Kd.R_alloc | apply Kd.R_drewN | apply Kd.R_drew)); exact HO258.out) hb); replace BK227 := as_ (blk_below (g := gb227) (o := .cells #[.int .i64 5, .int .i64 0, .string (⟨#[97, 98, 99]⟩ : ByteArray)] 23 (0, 0)) (bk BK227) hb); replace BK243 := bb BK243 hb; replace BK248 := bb BK248 hb; replace BK254 := bb BK254 hb; replace HB := as_ (below_step bA hb); (try clear hb); (try clear hb2); (try clear hk); (try clear hi)) | (go_at_call 15; (with_reducible refine (chain_Parts.calls kj6 (⟨#[]⟩ : ByteArray) 128 t264 _ A56.out).mono ?_); rintro e w86 ⟨v265, rfl, ho0, hb⟩; have HO266 := as_ (Kd.R_lower (Kd.R_new' ho0 (Kd.R_lt (by (with_reducible repeat (first | apply Kd.R_alloc | apply Kd.R_drewN | apply Kd.R_drew)); exact HO258.out))) (below_size bA)); replace HO258 := as_ (Kd.R_elder' (by (with_reducible repeat (first | apply Kd.R_alloc | apply Kd.R_drewN | apply Kd.R_drew)); exact HO258.out) (Kd.R_base ho0) hb); replace BK227 := as_ (blk_below (g := gb227) (o := .cells #[.int .i64 5, .int .i64 0, .string (⟨#[97, 98, 99]⟩ : ByteArray)] 23 (0, 0)) (bk BK227) hb); replace BK243 := bb BK243 hb; replace BK248 := bb BK248 hb; replace BK254 := bb BK254 hb; replace HB := as_ (below_step bA hb); (try clear hb); (try clear hb2); (try clear hk); (try clear hi); (try clear ho0); obtain ⟨Ao87, co87, eo87⟩ := Kd.R_slice HO266.out; subst eo87; obtain ⟨hcz88_0, hcz88_1, hcz88_2⟩ := zc3 BK227; obtain ⟨hfz88_0, hfz88_1, hfz88_2⟩ := zf3 BK227) | (go_at_call 10; (with_reducible refine (chain_May.calls 5 0 (⟨#[97, 98, 99]⟩ : ByteArray) 128 true _ A58.out).mono ?_); rintro e w89 ⟨rfl, hb⟩; replace HO258 := as_ (Kd.R_below (by (with_reducible repeat (first | apply Kd.R_alloc | apply Kd.R_drewN | apply Kd.R_drew)); exact HO258.out) hb); replace HO266 := as_ (Kd.R_below (by (with_reducible repeat (first | apply Kd.R_alloc | apply Kd.R_drewN | apply Kd.R_drew)); exact HO266.out) hb); replace BK227 := as_ (blk_below (g := gb227) (o := .cells #[.int .i64 5, .int .i64 0, .string (⟨#[97, 98, 99]⟩ : ByteArray)] 23 (0, 0)) (bk BK227) hb); replace BK243 := bb BK243 hb; replace BK248 := bb BK248 hb; replace BK254 := bb BK254 hb; replace HB := as_ (below_step bA hb); (try clear hb); (try clear hb2); (try clear hk); (try clear hi)) | (go_at_call 10; (with_reducible refine (chain_May.calls 0 0 (⟨#[]⟩ : ByteArray) 128 t268 _ A60.out).mono ?_); rintro e w90 ⟨rfl, hb⟩; replace HO258 := as_ (Kd.R_below (by (with_reducible repeat (first | apply Kd.R_alloc | apply Kd.R_drewN | apply Kd.R_drew)); exact HO258.out) hb); replace HO266 := as_ (Kd.R_below (by (with_reducible repeat (first | apply Kd.R_alloc | apply Kd.R_drewN | apply Kd.R_drew)); exact HO266.out) hb); replace BK227 := as_ (blk_below (g := gb227) (o := .cells #[.int .i64 5, .int .i64 0, .string (⟨#[97, 98, 99]⟩ : ByteArray)] 23 (0, 0)) (bk BK227) hb); replace BK243 := bb BK243 hb; replace BK248 := bb BK248 hb; replace BK254 := bb BK254 hb; replace HB := as_ (below_step bA hb); (try clear hb); (try clear hb2); (try clear hk); (try clear hi)))
   go_ret
   exact ⟨by first | rfl | (simp [errW_none, errW_some] <;> rfl) | (simp only [← hjs34]; first | rfl | (simp [errW_none, errW_some] <;> rfl)) | (simp [*, errW_none, errW_some] <;> rfl), by repeat (first | (with_reducible first | exact HB.out | apply below_alloc | apply pw_below_drewN | apply below_drew1 | refine below_set ?_ GE227.out | refine below_set ?_ GE243.out | refine below_set ?_ GE248.out | refine below_set ?_ GE254.out) | exact HB.out)⟩
/-! ### withyref01_Words: function 14 -/
def withyref01_Words.l0 : Nat → List ByteArray → List ByteArray → Int → Option (Bool)
 | 0, _, _, _ => none
 | k + 1, x0, x1, x5 => if x5 < (x0.length : Int) then (if 0 ≤ x5 then (if x5 < (x1.length : Int) then (if (rdOf ByteArray.empty x0 x5).toList = (rdOf ByteArray.empty x1 x5).toList then (withyref01_Words.l0 k x0 x1 (wrap64 (x5 + 1))) else (some false)) else (none)) else (none)) else (some true)
def withyref01_Words.f (k : Nat) (l0 : List ByteArray) (l1 : List ByteArray) : Option (Bool) := if (l0.length : Int) = (l1.length : Int) then (withyref01_Words.l0 k l0 l1 0) else (some false)
theorem withyref01_Words.mono_l : ∀ k, (∀ y0 y1 y2, LeO (withyref01_Words.l0 k y0 y1 y2) (withyref01_Words.l0 (k + 1) y0 y1 y2))
 | 0 => fun _ _ _ r h => by simp [withyref01_Words.l0] at h
 | k + 1 => by
  have ih0 := withyref01_Words.mono_l k
  ·intro y0 y1 y2
   unfold withyref01_Words.l0
   repeat' first
   | (with_reducible exact ih0 _ _ _)
   | (with_reducible exact LeO.refl _)
   | (with_reducible exact LeO.none _)
   | (with_reducible refine LeO.ite ?_ ?_)
   | (with_reducible refine LeO.bind ?_ (fun _ => ?_))
   | exact ih0 _ _ _
   | exact LeO.none _
   | refine LeO.ite ?_ ?_
   | refine LeO.bind ?_ (fun _ => ?_)
theorem withyref01_Words.mono : ∀ a0 a1 k, LeO (withyref01_Words.f k a0 a1) (withyref01_Words.f (k + 1) a0 a1) := by
 intro a0 a1 k
 have ih0 := withyref01_Words.mono_l k
 unfold withyref01_Words.f
 repeat' first
   | (with_reducible exact ih0 _ _ _)
   | (with_reducible exact LeO.refl _)
   | (with_reducible exact LeO.none _)
   | (with_reducible refine LeO.ite ?_ ?_)
   | (with_reducible refine LeO.bind ?_ (fun _ => ?_))
   | exact ih0 _ _ _
   | exact LeO.none _
   | refine LeO.ite ?_ ?_
   | refine LeO.bind ?_ (fun _ => ?_)
set_option maxHeartbeats 8000000 in
set_option maxRecDepth 100000 in
theorem withyref01_Words.calls (k : Nat) (A0 : Option Addr) (c0 : Nat) (l0 : List ByteArray) (A1 : Option Addr) (c1 : Nat) (l1 : List ByteArray) (r : Bool) (w : World) (hr0 : Kd.C Kd.string w A0 l0.length l0) (hc0 : l0.length ≤ c0) (hr1 : Kd.C Kd.string w A1 l1.length l1) (hc1 : l1.length ≤ c1) (h : withyref01_Words.f k l0 l1 = some r) :
  Calls Tryz.prog 14 #[.slice A0 l0.length c0, .slice A1 l1.length c1] w fun e w' => e = .returned (.bool r) ∧ Drawn0 w w' := by
 have HR0 := Aside0.mk hr0
 have HC0 := Aside0.mk hc0
 clear hr0 hc0
 have HR1 := Aside0.mk hr1
 have HC1 := Aside0.mk hc1
 clear hr1 hc1
 have H : (if (l0.length : Int) = (l1.length : Int) then (withyref01_Words.l0 k l0 l1 0) else (some false)) = some r := h
 clear h
 by_cases c3 : (l0.length : Int) = (l1.length : Int)
 rotate_left
 ·rw [if_neg c3] at H
  have c3b0 : ((l0.length : Int) == (l1.length : Int)) = false := beq_eq_false_iff_ne.mpr c3
  have c3b1 : ((l0.length : Int) != (l1.length : Int)) = true := bne_iff_ne.mpr c3
  have c3b2 : (l0.length == l1.length) = false := by first | simpa using c3 | (simp at c3 ⊢; omega)
  obtain rfl := Option.some.inj H
  go_enter Tryz.func14, Tryz.ntmps14
  go_wp2
  repeat (go_quiet (fail); try go_wp2)
  go_ret
  exact ⟨by first | rfl | (simp; done) | (simp [*]; done), by repeat (first | exact Drawn0.refl _ | apply Drawn0.step)⟩
 
 rw [if_pos c3] at H
 have c3b0 : ((l0.length : Int) == (l1.length : Int)) = true := beq_iff_eq.mpr c3
 have c3b1 : ((l0.length : Int) != (l1.length : Int)) = false := bne_eq_false_iff_eq.mpr c3
 have c3b2 : (l0.length == l1.length) = true := by first | simpa using c3 | (simp at c3 ⊢; omega)
 clear c3
 have H' := Aside0.mk H
 clear H
 go_enter Tryz.func14, Tryz.ntmps14
 go_wp2
 repeat (go_quiet (fail); try go_wp2)
 go_loopg [5] k (fun kq v5 w' => ∃ (x5_1 : Int), v5 = .int .i64 x5_1 ∧ Aside0 (withyref01_Words.l0 kq l0 l1 x5_1 = some r) ∧ Aside0 (kq ≤ k) ∧ Drawn0 w w')
 case atStart => exact ⟨(0), (by first | rfl | (simp; done) | (simp [*]; done)), H', ⟨Nat.le_refl _⟩, by repeat (first | exact Drawn0.refl _ | apply Drawn0.step)⟩
 case round =>
  clear H'
  try clear c1
  try clear p2
  try clear c3
  try clear c3b0
  try clear c3b1
  try clear c3b2
  obtain ⟨x5_1, rfl, HA, HK1, ⟨m1, rfl⟩⟩ := hrel
  cases gk with
  | zero => exact absurd HA.out (by simp [withyref01_Words.l0])
  | succ k1 =>
   have H := HA.out
   clear HA
   simp only [withyref01_Words.l0] at H
   by_cases c4 : x5_1 < (l0.length : Int)
   rotate_left
   ·rw [if_neg c4] at H
    have c4b0 : decide (x5_1 < (l0.length : Int)) = false := decide_eq_false c4
    clear c4
    obtain rfl := Option.some.inj H
    go_wp2
    repeat (go_quiet (fail); try go_wp2)
    go_ret
    exact ⟨by first | rfl | (simp; done) | (simp [*]; done), by repeat (first | exact Drawn0.refl _ | apply Drawn0.step)⟩
   rw [if_pos c4] at H
   have c4b0 : decide (x5_1 < (l0.length : Int)) = true := decide_eq_true c4
   clear c4
   by_cases c5 : 0 ≤ x5_1
   rotate_left
   ·rw [if_neg c5] at H
    exact absurd H (by simp)
   rw [if_pos c5] at H
   have c5b0 : decide (0 ≤ x5_1) = true := decide_eq_true c5
   clear c5
   by_cases c6 : x5_1 < (l1.length : Int)
   rotate_left
   ·rw [if_neg c6] at H
    exact absurd H (by simp)
   rw [if_pos c6] at H
   have c6b0 : decide (x5_1 < (l1.length : Int)) = true := decide_eq_true c6
   clear c6
   by_cases c7 : (rdOf ByteArray.empty l0 x5_1).toList = (rdOf ByteArray.empty l1 x5_1).toList
   rotate_left
   ·rw [if_neg c7] at H
    have c7b0 : ((rdOf ByteArray.empty l0 x5_1).toList == (rdOf ByteArray.empty l1 x5_1).toList) = false := beq_eq_false_iff_ne.mpr c7
    have c7b1 : ((rdOf ByteArray.empty l0 x5_1).toList != (rdOf ByteArray.empty l1 x5_1).toList) = true := bne_iff_ne.mpr c7
    obtain rfl := Option.some.inj H
    have p269 : 0 ≤ (x5_1 : Int) := of_decide_eq_true aM
    have q269 : x5_1 < (l0.length : Int) := of_decide_eq_true aM
    obtain ⟨ad269, e269, hx269_0⟩ := Kd.at_string HR0.out x5_1 p269 q269
    cases e269
    replace p269 := eq_true p269
    replace q269 := eq_true q269
    have p270 : 0 ≤ (x5_1 : Int) := of_decide_eq_true aM
    have q270 : x5_1 < (l1.length : Int) := of_decide_eq_true aM
    obtain ⟨ad270, e270, hx270_0⟩ := Kd.at_string HR1.out x5_1 p270 q270
    cases e270
    replace p270 := eq_true p270
    replace q270 := eq_true q270
    go_wp2
    repeat (go_quiet (fail); try go_wp2)
    go_ret
    exact ⟨by first | rfl | (simp; done) | (simp [*]; done), by repeat (first | exact Drawn0.refl _ | apply Drawn0.step)⟩
   rw [if_pos c7] at H
   have c7b0 : ((rdOf ByteArray.empty l0 x5_1).toList == (rdOf ByteArray.empty l1 x5_1).toList) = true := beq_iff_eq.mpr c7
   have c7b1 : ((rdOf ByteArray.empty l0 x5_1).toList != (rdOf ByteArray.empty l1 x5_1).toList) = false := bne_eq_false_iff_eq.mpr c7
   clear c7
   have H' := Aside0.mk H
   clear H
   have p269 : 0 ≤ (x5_1 : Int) := of_decide_eq_true aM
   have q269 : x5_1 < (l0.length : Int) := of_decide_eq_true aM
   obtain ⟨ad269, e269, hx269_0⟩ := Kd.at_string HR0.out x5_1 p269 q269
   cases e269
   replace p269 := eq_true p269
   replace q269 := eq_true q269
   have p270 : 0 ≤ (x5_1 : Int) := of_decide_eq_true aM
   have q270 : x5_1 < (l1.length : Int) := of_decide_eq_true aM
   obtain ⟨ad270, e270, hx270_0⟩ := Kd.at_string HR1.out x5_1 p270 q270
   cases e270
   replace p270 := eq_true p270
   replace q270 := eq_true q270
   go_wp2
   repeat (go_quiet (fail); try go_wp2)
   go_roundg k1
   case measure => have := HK1.out; omega
   case rel => exact ⟨(wrap64 (x5_1 + 1)), (by first | rfl | (simp; done) | (simp [*]; done)), H', ⟨by have := HK1.out; omega⟩, by repeat (first | exact Drawn0.refl _ | apply Drawn0.step)⟩
/-! ### withyref12_Parts: function 16 -/
def withyref12_Parts.l0 : Nat → ByteArray → Int → List ByteArray → Int → Option (List ByteArray)
 | 0, _, _, _, _ => none
 | k + 1, x0, x1, x5, x6 => if x6 < (x0.size : Int) then (if 0 ≤ x6 then (if x6 ≤ (mn (wrap64 ((wrap64 (x6 + x1)) - 16)) (x0.size : Int)) then (if (mn (wrap64 ((wrap64 (x6 + x1)) - 16)) (x0.size : Int)) ≤ (x0.size : Int) then (if x5.length < 8796093022208 then (withyref12_Parts.l0 k x0 x1 (x5 ++ [x0.extract (x6 : Int).toNat ((mn (wrap64 ((wrap64 (x6 + x1)) - 16)) (x0.size : Int)) : Int).toNat]) (wrap64 ((wrap64 (x6 + x1)) - 16))) else (none)) else (none)) else (none)) else (none)) else (some x5)
def withyref12_Parts.f (k : Nat) (a0 : ByteArray) (a1 : Int) : Option (List ByteArray) := withyref12_Parts.l0 k a0 a1 (([] : List ByteArray)) 0
theorem withyref12_Parts.mono_l : ∀ k, (∀ y0 y1 y2 y3, LeO (withyref12_Parts.l0 k y0 y1 y2 y3) (withyref12_Parts.l0 (k + 1) y0 y1 y2 y3))
 | 0 => fun _ _ _ _ r h => by simp [withyref12_Parts.l0] at h
 | k + 1 => by
  have ih0 := withyref12_Parts.mono_l k
  ·intro y0 y1 y2 y3
   unfold withyref12_Parts.l0
   repeat' first
   | (with_reducible exact ih0 _ _ _ _)
   | (with_reducible exact LeO.refl _)
   | (with_reducible exact LeO.none _)
   | (with_reducible refine LeO.ite ?_ ?_)
   | (with_reducible refine LeO.bind ?_ (fun _ => ?_))
   | exact ih0 _ _ _ _
   | exact LeO.none _
   | refine LeO.ite ?_ ?_
   | refine LeO.bind ?_ (fun _ => ?_)
theorem withyref12_Parts.mono : ∀ a0 a1 k, LeO (withyref12_Parts.f k a0 a1) (withyref12_Parts.f (k + 1) a0 a1) := by
 intro a0 a1 k
 have ih0 := withyref12_Parts.mono_l k
 unfold withyref12_Parts.f
 repeat' first
   | (with_reducible exact ih0 _ _ _ _)
   | (with_reducible exact LeO.refl _)
   | (with_reducible exact LeO.none _)
   | (with_reducible refine LeO.ite ?_ ?_)
   | (with_reducible refine LeO.bind ?_ (fun _ => ?_))
   | exact ih0 _ _ _ _
   | exact LeO.none _
   | refine LeO.ite ?_ ?_
   | refine LeO.bind ?_ (fun _ => ?_)
set_option maxHeartbeats 8000000 in
set_option maxRecDepth 100000 in
theorem withyref12_Parts.calls (k : Nat) (a0 : ByteArray) (a1 : Int) (r : List ByteArray) (w : World) (h : withyref12_Parts.f k a0 a1 = some r) :
  Calls Tryz.prog 16 #[.string a0, .int .i64 a1] w fun e w' => ∃ v0_ : Value, e = .returned (v0_) ∧ Kd.R Kd.string 9 w' w.heap.size (fun _ => True) v0_ r ∧ Below w.heap.size w w' := by
 have HB := as_ (Below.refl w.heap.size w)
 have H : (withyref12_Parts.l0 k a0 a1 (([] : List ByteArray)) 0) = some r := h
 clear h
 obtain ⟨y271, hy271⟩ : ∃ y_ : List ByteArray, y_ = (([] : List ByteArray)) := ⟨_, rfl⟩
 replace H : (withyref12_Parts.l0 k a0 a1 y271 0) = some r := by first | (rw [hy271]; with_reducible exact H) | (have H2_ := (Option.bind_some _ _).symm.trans H; rw [hy271]; with_reducible exact H2_) | (have H2_ := (Option.bind_some _ _).symm.trans H; with_reducible exact H2_) | with_reducible exact H | (rw [hy271]; exact H) | exact H
 have Ny271 := Aside0.mk hy271
 clear hy271
 have H' := Aside0.mk H
 clear H
 go_enter Tryz.func16, Tryz.ntmps16
 go_wp2_with (first | ((with_reducible refine gate_dst (N := 7) rfl ?_); refine Kd.R_lit Kd.string _ 9 ?hg (N := 7) ?hd (xs := ([] : List ByteArray)) (inner := []) (ok := fun _ => True) (okp := fun _ => True) ?hr ?hp (fun _ hk => hk) trivial (Below.refl _ _) (Nat.le_refl _) (by simp) ?_; (case hd => rfl); (case hg => rfl); (case hr => first | (go_simp; done) | (go_simp; rfl)); (case hp => exact (Reps.none _ _)); intro v272 w3 ho4 hb hg_ hnew_; clear hg_ hnew_; (first | rw [← Ny271.out] at ho4 | (simp only [Int.reduceToNat] at ho4; rw [← Ny271.out] at ho4)); have HO273 := as_ (Kd.R_lower ho4 (below_size bA)); replace HB := as_ (below_step bA hb); clear hb ho4))
 go_loopg [5, 6] k (fun kq v5 v6 w' => ∃ (x5_1 : List ByteArray) (x6_1 : Int), v6 = .int .i64 x6_1 ∧ Aside0 (withyref12_Parts.l0 kq a0 a1 x5_1 x6_1 = some r) ∧ Aside0 (kq ≤ k) ∧ Aside0 (Kd.R Kd.string 9 w' w.heap.size (fun _ => True) v5 x5_1) ∧ Aside0 (Below w.heap.size w w'))
 case atStart => exact ⟨(y271), (0), (by first | rfl | (simp; done) | (simp [*]; done)), H', ⟨Nat.le_refl _⟩, ⟨by (with_reducible repeat (first | apply Kd.R_alloc | apply Kd.R_drewN | apply Kd.R_drew)); exact HO273.out⟩, ⟨by repeat (first | (with_reducible first | exact HB.out | apply below_alloc | apply pw_below_drewN | apply below_drew1) | exact HB.out)⟩⟩
 case round =>
  clear H'
  try clear c1
  try clear p2
  obtain ⟨x5_1, x6_1, rfl, HA, HK1, HO_5, HB⟩ := hrel
  cases gk with
  | zero => exact absurd HA.out (by simp [withyref12_Parts.l0])
  | succ k1 =>
   have H := HA.out
   clear HA
   simp only [withyref12_Parts.l0] at H
   by_cases c5 : x6_1 < (a0.size : Int)
   rotate_left
   ·rw [if_neg c5] at H
    have c5b0 : decide (x6_1 < (a0.size : Int)) = false := decide_eq_false c5
    clear c5
    obtain rfl := Option.some.inj H
    go_wp2
    go_ret
    exact ⟨_, eW, by (with_reducible repeat (first | apply Kd.R_alloc | apply Kd.R_drewN | apply Kd.R_drew)); exact HO_5.out, by repeat (first | (with_reducible first | exact HB.out | apply below_alloc | apply pw_below_drewN | apply below_drew1) | exact HB.out)⟩
 
   rw [if_pos c5] at H
   have c5b0 : decide (x6_1 < (a0.size : Int)) = true := decide_eq_true c5
   clear c5
   obtain ⟨ji6, hji6⟩ : ∃ j_ : Int, (mn (wrap64 ((wrap64 (x6_1 + a1)) - 16)) (a0.size : Int)) = j_ := ⟨_, rfl⟩
   replace H : (if 0 ≤ x6_1 then (if x6_1 ≤ (ji6) then (if (ji6) ≤ (a0.size : Int) then (if x5_1.length < 8796093022208 then (withyref12_Parts.l0 k1 a0 a1 (x5_1 ++ [a0.extract (x6_1 : Int).toNat ((ji6) : Int).toNat]) (wrap64 ((wrap64 (x6_1 + a1)) - 16))) else (none)) else (none)) else (none)) else (none)) = some r := by first | (rw [hji6] at H; exact H) | (simp only [hji6] at H ⊢; exact H)
   have hji6_ : (if (a0.size : Int) < (wrap64 ((wrap64 (x6_1 + a1)) - 16)) then (a0.size : Int) else (wrap64 ((wrap64 (x6_1 + a1)) - 16))) = ji6 := hji6
   by_cases c7 : 0 ≤ x6_1
   rotate_left
   ·rw [if_neg c7] at H
    exact absurd H (by simp)
   rw [if_pos c7] at H
   have c7b0 := eq_true c7
   have c7b1 : decide (0 ≤ x6_1) = true := decide_eq_true c7
   clear c7
   by_cases c8 : x6_1 ≤ (ji6)
   rotate_left
   ·rw [if_neg c8] at H
    exact absurd H (by simp)
   rw [if_pos c8] at H
   have c8b0 := eq_true c8
   have c8b1 : decide (x6_1 ≤ (ji6)) = true := decide_eq_true c8
   clear c8
   by_cases c9 : (ji6) ≤ (a0.size : Int)
   rotate_left
   ·rw [if_neg c9] at H
    exact absurd H (by simp)
   rw [if_pos c9] at H
   have c9b0 := eq_true c9
   have c9b1 : decide ((ji6) ≤ (a0.size : Int)) = true := decide_eq_true c9
   clear c9
   obtain ⟨js10, hjs10⟩ : ∃ j_ : ByteArray, (a0.extract (x6_1 : Int).toNat ((ji6) : Int).toNat) = j_ := ⟨_, rfl⟩
   replace H : (if x5_1.length < 8796093022208 then (withyref12_Parts.l0 k1 a0 a1 (x5_1 ++ [js10]) (wrap64 ((wrap64 (x6_1 + a1)) - 16))) else (none)) = some r := by first | (rw [hjs10] at H; exact H) | (simp only [hjs10] at H ⊢; exact H)
   by_cases c11 : x5_1.length < 8796093022208
   rotate_left
   ·rw [if_neg c11] at H
    exact absurd H (by simp)
   rw [if_pos c11] at H
   have LMc11 := Aside0.mk c11
   clear c11
   obtain ⟨y274, hy274⟩ : ∃ y_ : List ByteArray, y_ = (x5_1 ++ [js10]) := ⟨_, rfl⟩
   replace H : (withyref12_Parts.l0 k1 a0 a1 y274 (wrap64 ((wrap64 (x6_1 + a1)) - 16))) = some r := by first | (rw [hy274]; with_reducible exact H) | (have H2_ := (Option.bind_some _ _).symm.trans H; rw [hy274]; with_reducible exact H2_) | (have H2_ := (Option.bind_some _ _).symm.trans H; with_reducible exact H2_) | with_reducible exact H | (rw [hy274]; exact H) | exact H
   have Ny274 := Aside0.mk hy274
   clear hy274
   have H' := Aside0.mk H
   clear H
   go_wp2_with (first | ((with_reducible refine gate_builtin (b := .append) (xs := #[.tmp 16, .tmp 27]) rfl ?_); at_builtin; refine Kd.R_append Kd.string (w0 := w) w.heap.size rfl (.tmp 16) (.tmp 27) 42 9 (.string ⟨#[]⟩) 16 rfl Tryz.underlying42 info9 rfl (by decide) (by omega) u5 x5_1 js10 [.string js10] (fun _ => True) (fun _ => False) rfl rfl ?aP (fun _ hk => hk.elim) ?aF ?aO ?aB ?aS ?aL ?_; (case aP => exact rfl); (case aB => exact bA); (case aF => exact (fun _ _ => trivial)); (case aO => exact (by (with_reducible repeat (first | apply Kd.R_alloc | apply Kd.R_drewN | apply Kd.R_drew)); exact HO_5.out)); (case aS => exact (below_size bA)); (case aL => have := LMc11.out; omega); intro v275 w12 ho hb hg hat; rw [← Ny274.out] at ho; have HO276 := as_ (ho); replace HB := as_ (hb); clear HO_5; clear ho hb hg hat))
   go_roundg k1
   case measure => have := HK1.out; omega
   case rel => exact ⟨(y274), (wrap64 ((wrap64 (x6_1 + a1)) - 16)), (by first | rfl | (simp; done) | (simp [*]; done)), H', ⟨by have := HK1.out; omega⟩, ⟨by (with_reducible repeat (first | apply Kd.R_alloc | apply Kd.R_drewN | apply Kd.R_drew)); exact HO276.out⟩, ⟨by repeat (first | (with_reducible first | exact HB.out | apply below_alloc | apply pw_below_drewN | apply below_drew1) | exact HB.out)⟩⟩
/-! ### withyref12_Pages: function 18 -/
def withyref12_Pages.f (a0 : Int) (a1 : Int) : Option (Int) := if a0 < 1 then (some 0) else (if (wrap64 (a1 - 16)) = 0 then (none) else (some (wrap64 ((wrap64 (Int.tdiv (wrap64 (a0 - 1)) (wrap64 (a1 - 16)))) + 1))))
set_option maxHeartbeats 8000000 in
set_option maxRecDepth 100000 in
theorem withyref12_Pages.calls (a0 : Int) (a1 : Int) (r : Int) (w : World) (h : withyref12_Pages.f a0 a1 = some r) :
  Calls Tryz.prog 18 #[.int .i64 a0, .int .i64 a1] w fun e w' => e = .returned (.int .i64 r) ∧ Drawn0 w w' := by
 have H : (if a0 < 1 then (some 0) else (if (wrap64 (a1 - 16)) = 0 then (none) else (some (wrap64 ((wrap64 (Int.tdiv (wrap64 (a0 - 1)) (wrap64 (a1 - 16)))) + 1))))) = some r := h
 clear h
 by_cases c3 : a0 < 1
 ·rw [if_pos c3] at H
  have c3b0 : decide (a0 < 1) = true := decide_eq_true c3
  clear c3
  obtain rfl := Option.some.inj H
  go_enter Tryz.func18, Tryz.ntmps18
  go_wp2
  go_ret
  exact ⟨by first | rfl | (simp; done) | (simp [*]; done), by repeat (first | exact Drawn0.refl _ | apply Drawn0.step)⟩
 rw [if_neg c3] at H
 have c3b0 : decide (a0 < 1) = false := decide_eq_false c3
 clear c3
 by_cases c4 : (wrap64 (a1 - 16)) = 0
 ·rw [if_pos c4] at H
  exact absurd H (by simp)
 rw [if_neg c4] at H
 have c4b0 : ((wrap64 (a1 - 16)) == 0) = false := beq_eq_false_iff_ne.mpr c4
 have c4b1 : ((wrap64 (a1 - 16)) != 0) = true := bne_iff_ne.mpr c4
 obtain rfl := Option.some.inj H
 go_enter Tryz.func18, Tryz.ntmps18
 go_wp2
 go_ret
 exact ⟨by first | rfl | (simp; done) | (simp [*]; done), by repeat (first | exact Drawn0.refl _ | apply Drawn0.step)⟩

end Go.Proofs.YtggfnlnonigkiaaGreatDoor.P
