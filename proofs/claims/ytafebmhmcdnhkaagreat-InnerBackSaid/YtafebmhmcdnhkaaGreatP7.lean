/- What is proved here: for functions of the Go text, a Lean function each, and that the call comes to just what it answers. Conditions: as each contract names them. Written by wip/tools/myprint.py, a driver of the print of the kit. -/
import Derived.Test.YtafebmhmcdnhkaaGreatP0
import Derived.Test.YtafebmhmcdnhkaaGreatP3
import Derived.Test.YtafebmhmcdnhkaaGreatP6
import Derived.Test.YtafebmhmcdnhkaaGreatWAbbr
namespace Go.Proofs.YtafebmhmcdnhkaaGreat.P
open Go.RowKit Go.Proofs.YtafebmhmcdnhkaaGreatW.PrintWords Go.Proofs.YtafebmhmcdnhkaaGreatW.PrintLast Go.Proofs.YtafebmhmcdnhkaaGreatW.PrintMore Go.Proofs.YtafebmhmcdnhkaaGreatW.Abbr
-- PACKED
attribute [local go_sem] max2_int min2_int max_two min_two max_three min_three max_four min_four Go.Proofs.YtafebmhmcdnhkaaGreatLaws.str_leq Go.Proofs.YtafebmhmcdnhkaaGreatLaws.str_gtr Go.Proofs.YtafebmhmcdnhkaaGreatLaws.str_geq Go.Proofs.YtafebmhmcdnhkaaGreatLaws.max2_str Go.Proofs.YtafebmhmcdnhkaaGreatLaws.min2_str   -- for this text's walks alone
set_option linter.unusedVariables false
set_option linter.unusedSimpArgs false

/-! ### head_Open: function 40 -/
def head_Open.f (k : Nat) (a0 : ByteArray) : Option (Int × Int × Int × Int × Int × ByteArray × Int) := (disk_Size.f (a0.size : Int)).bind fun t254 => (if t254 = true then ((word_Read.f k a0 4).bind fun bt255 => ((word_Read.f k a0 8).bind fun bt257 => (if 0 < (a0.size : Int) then (if 1 < (a0.size : Int) then (if 2 < (a0.size : Int) then (if 3 < (a0.size : Int) then (if 16 ≤ (a0.size : Int) then ((head_Seal.f k (wrap64 (bt a0 0)) (wrap64 (bt a0 1)) (wrap64 ((wrap64 (bt a0 2)) + (wrap64 (256 * (wrap64 (bt a0 3)))))) (wrap64 (bt255.1)) (wrap64 (bt257.1)) (a0.extract 16 a0.size) (a0.size : Int)).bind fun bt260 => (if bt260.2 = 0 then (if bt260.1.toList = a0.toList then (some (wrap64 (bt a0 0), wrap64 (bt a0 1), wrap64 ((wrap64 (bt a0 2)) + (wrap64 (256 * (wrap64 (bt a0 3))))), wrap64 (bt255.1), wrap64 (bt257.1), a0.extract 16 a0.size, 0)) else (some (0, 0, 0, 0, 0, (⟨#[]⟩ : ByteArray), 3))) else (some (0, 0, 0, 0, 0, (⟨#[]⟩ : ByteArray), 3)))) else (none)) else (none)) else (none)) else (none)) else (none)))) else (some (0, 0, 0, 0, 0, (⟨#[]⟩ : ByteArray), 3)))
theorem head_Open.mono : ∀ a0 k, LeO (head_Open.f k a0) (head_Open.f (k + 1) a0) := by
 intro a0 k
 unfold head_Open.f
 repeat' first
   | (with_reducible exact head_Seal.mono _ _ _ _ _ _ _ _)
   | (with_reducible exact word_Read.mono _ _ _)
   | (with_reducible exact LeO.refl _)
   | (with_reducible exact LeO.none _)
   | (with_reducible refine LeO.ite ?_ ?_)
   | (with_reducible refine LeO.bind ?_ (fun _ => ?_))
   | exact head_Seal.mono _ _ _ _ _ _ _ _
   | exact word_Read.mono _ _ _
   | exact LeO.none _
   | refine LeO.ite ?_ ?_
   | refine LeO.bind ?_ (fun _ => ?_)
def head_Open.T5 : Bool × List (List Nat × List Nat) := (true, [([], []), ([0], [0]), ([1], [1]), ([], []), ([3], [3]), ([4], [4]), ([], []), ([6], [6]), ([7], [7]), ([], []), ([9], [9]), ([10], [10]), ([11], [11]), ([8, 12], [8, 12]), ([], []), ([14], [14]), ([], []), ([16], [16]), ([2, 5, 13, 15, 17], [2, 5, 13, 15, 17]), ([], []), ([19, 18, 0, 1, 2, 3, 4, 5, 6, 7, 8, 9, 10, 11, 12, 13, 14, 15, 16, 17, 18, 19], [18, 19])])
def head_Open.B5 : List Nat := [0, 1, 3, 0, 8, 24, 0, 64, 192, 0, 512, 1536, 3584, 8128, 0, 16384, 0, 65536, 262143, 0, 1048575]
theorem head_Open.tab5 : rtab .any (opsOf Tryz.f40 5) = head_Open.T5 := by kernel_rfl
theorem head_Open.bits5 : waitsOk head_Open.T5.2 head_Open.B5 = true := by kernel_rfl
def head_Open.T6 : Bool × List (List Nat × List Nat) := (true, [([], []), ([], []), ([1], [1]), ([], []), ([3], [3]), ([0, 2, 4], [0, 2, 4]), ([5], [5]), ([6], [6]), ([6], [6]), ([7, 5, 0, 1, 2, 3, 4, 5, 6, 7], [7]), ([8, 9, 0, 1, 2, 3, 4, 5, 6, 7, 8, 9], [8])])
def head_Open.B6 : List Nat := [0, 0, 2, 0, 8, 31, 63, 127, 127, 255, 1023]
theorem head_Open.tab6 : rtab .any (opsOf Tryz.f40 6) = head_Open.T6 := by kernel_rfl
theorem head_Open.bits6 : waitsOk head_Open.T6.2 head_Open.B6 = true := by kernel_rfl
set_option maxHeartbeats 8000000 in
set_option maxRecDepth 100000 in
theorem head_Open.calls (k : Nat) (a0 : ByteArray) (r1 : Int) (r2 : Int) (r3 : Int) (r4 : Int) (r5 : Int) (r6 : ByteArray) (r7 : Int) (w : World) (h : head_Open.f k a0 = some (r1, r2, r3, r4, r5, r6, r7)) :
  Calls Tryz.prog 40 #[.string a0] w fun e w' => e = .returned (.tuple #[.agg #[.int .i64 r1, .int .i64 r2, .int .i64 r3, .int .i64 r4, .int .i64 r5], .string r6, .int .i64 r7]) ∧ Below w.heap.size w w' := by
 have hu71 := Tryz.underlying71
 have HB := as_ (Below.refl w.heap.size w)
 have H : ((disk_Size.f (a0.size : Int)).bind fun t254 => (if t254 = true then ((word_Read.f k a0 4).bind fun bt255 => ((word_Read.f k a0 8).bind fun bt257 => (if 0 < (a0.size : Int) then (if 1 < (a0.size : Int) then (if 2 < (a0.size : Int) then (if 3 < (a0.size : Int) then (if 16 ≤ (a0.size : Int) then ((head_Seal.f k (wrap64 (bt a0 0)) (wrap64 (bt a0 1)) (wrap64 ((wrap64 (bt a0 2)) + (wrap64 (256 * (wrap64 (bt a0 3)))))) (wrap64 (bt255.1)) (wrap64 (bt257.1)) (a0.extract 16 a0.size) (a0.size : Int)).bind fun bt260 => (if bt260.2 = 0 then (if bt260.1.toList = a0.toList then (some (wrap64 (bt a0 0), wrap64 (bt a0 1), wrap64 ((wrap64 (bt a0 2)) + (wrap64 (256 * (wrap64 (bt a0 3))))), wrap64 (bt255.1), wrap64 (bt257.1), a0.extract 16 a0.size, 0)) else (some (0, 0, 0, 0, 0, (⟨#[]⟩ : ByteArray), 3))) else (some (0, 0, 0, 0, 0, (⟨#[]⟩ : ByteArray), 3)))) else (none)) else (none)) else (none)) else (none)) else (none)))) else (some (0, 0, 0, 0, 0, (⟨#[]⟩ : ByteArray), 3)))) = some (r1, r2, r3, r4, r5, r6, r7) := h
 clear h
 obtain ⟨t254, A2, H⟩ := bN H
 (try dsimp only at H)
 by_cases c3 : t254 = true
 rotate_left
 ·replace c3 := Bool.eq_false_iff.mpr c3
  subst c3
  have H1 : (some (0, 0, 0, 0, 0, (⟨#[]⟩ : ByteArray), 3)) = some (r1, r2, r3, r4, r5, r6, r7) := by rw [if_neg (show ¬ (false = true) by decide)] at H; exact H
  clear H
  have H := H1
  clear H1
  simp only [Option.some.injEq, Prod.mk.injEq] at H
  obtain ⟨rfl, rfl, rfl, rfl, rfl, rfl, rfl⟩ := H
  go_enter Tryz.func40, Tryz.ntmps40
  go_wp2_with (first | ((with_reducible refine gate_dst (N := 2) rfl ?_); refine box_event (by rfl) (N := 2) (by rfl) (cs := #[.int .i64 0, .int .i64 0, .int .i64 0, .int .i64 0, .int .i64 0]) (t := 71) gS ?_; intro gb253 hg w66 hbox hb; have BK253 := as_ (hbox); have GW253 := gw hg bA; have GE253 := gw hg bA; replace HB := as_ (below_step bA hb); clear hb hbox hg) | ((with_reducible refine gate_callee (f := 32) rfl ?_); refine goesL_ (some 14) rfl rfl Tryz.func32 (by kernel_rfl) rfl #[.int .i64 (a0.size : Int)] rfl aO ?_; (with_reducible refine (disk_Size.calls (a0.size : Int) false _ A2.out).mono ?_); rintro e w67 ⟨rfl, hb⟩; refine ⟨_, rfl, ?_⟩; replace BK253 := bb BK253 hb; replace HB := as_ (below_step bA hb); (try clear hb); obtain ⟨hcz68_0, hcz68_1, hcz68_2, hcz68_3, hcz68_4⟩ := zc5 BK253; obtain ⟨hfz68_0, hfz68_1, hfz68_2, hfz68_3, hfz68_4⟩ := zf5 BK253))
  refine bodyPost_ret (results_ctt rfl _ _ gb253 71 #[.int .i64 0, .int .i64 0, .int .i64 0, .int .i64 0, .int .i64 0] (0, 0) _ rfl (by refine bx ?_; refine blk_put (cs := #[.int .i64 0, .int .i64 0, .int .i64 0, .int .i64 0, .int .i64 0]) ?_ 4 _ rfl; refine bx ?_; refine blk_put (cs := #[.int .i64 0, .int .i64 0, .int .i64 0, .int .i64 0, .int .i64 0]) ?_ 3 _ rfl; refine bx ?_; refine blk_put (cs := #[.int .i64 0, .int .i64 0, .int .i64 0, .int .i64 0, .int .i64 0]) ?_ 2 _ rfl; refine bx ?_; refine blk_put (cs := #[.int .i64 0, .int .i64 0, .int .i64 0, .int .i64 0, .int .i64 0]) ?_ 1 _ rfl; refine bx ?_; refine blk_put (cs := #[.int .i64 0, .int .i64 0, .int .i64 0, .int .i64 0, .int .i64 0]) ?_ 0 _ rfl; refine bx ?_; exact BK253.out) Tryz.underlying71 rfl (by kernel_rfl)) rfl ?_
  exact ⟨eW, bA⟩
 
 subst c3
 have H1 : ((word_Read.f k a0 4).bind fun bt255 => ((word_Read.f k a0 8).bind fun bt257 => (if 0 < (a0.size : Int) then (if 1 < (a0.size : Int) then (if 2 < (a0.size : Int) then (if 3 < (a0.size : Int) then (if 16 ≤ (a0.size : Int) then ((head_Seal.f k (wrap64 (bt a0 0)) (wrap64 (bt a0 1)) (wrap64 ((wrap64 (bt a0 2)) + (wrap64 (256 * (wrap64 (bt a0 3)))))) (wrap64 (bt255.1)) (wrap64 (bt257.1)) (a0.extract 16 a0.size) (a0.size : Int)).bind fun bt260 => (if bt260.2 = 0 then (if bt260.1.toList = a0.toList then (some (wrap64 (bt a0 0), wrap64 (bt a0 1), wrap64 ((wrap64 (bt a0 2)) + (wrap64 (256 * (wrap64 (bt a0 3))))), wrap64 (bt255.1), wrap64 (bt257.1), a0.extract 16 a0.size, 0)) else (some (0, 0, 0, 0, 0, (⟨#[]⟩ : ByteArray), 3))) else (some (0, 0, 0, 0, 0, (⟨#[]⟩ : ByteArray), 3)))) else (none)) else (none)) else (none)) else (none)) else (none)))) = some (r1, r2, r3, r4, r5, r6, r7) := by rw [if_pos rfl] at H; exact H
 clear H
 have H := H1
 clear H1
 obtain ⟨⟨t255, t256⟩, A4, H⟩ := bN H
 (try dsimp only at H)
 obtain ⟨⟨t257, t258⟩, A5, H⟩ := bN H
 (try dsimp only at H)
 obtain ⟨c6, H⟩ := iN (c := 0 < (a0.size : Int)) H
 have c6b0 := decide_eq_true c6
 have c6b1 : decide (0 < a0.size) = true := decide_eq_true (by omega)
 clear c6
 obtain ⟨c8, H⟩ := iN (c := 1 < (a0.size : Int)) H
 have c8b0 := decide_eq_true c8
 have c8b1 : decide (1 < a0.size) = true := decide_eq_true (by omega)
 clear c8
 obtain ⟨c10, H⟩ := iN (c := 2 < (a0.size : Int)) H
 have c10b0 := decide_eq_true c10
 have c10b1 : decide (2 < a0.size) = true := decide_eq_true (by omega)
 clear c10
 obtain ⟨c12, H⟩ := iN (c := 3 < (a0.size : Int)) H
 have c12b0 := decide_eq_true c12
 have c12b1 : decide (3 < a0.size) = true := decide_eq_true (by omega)
 clear c12
 obtain ⟨c14, H⟩ := iN (c := 16 ≤ (a0.size : Int)) H
 have c14b0 := eq_true c14
 have c14b1 := decide_eq_true c14
 clear c14
 obtain ⟨js15, hjs15⟩ : ∃ j_ : ByteArray, (a0.extract 16 a0.size) = j_ := ⟨_, rfl⟩
 replace H : ((head_Seal.f k (wrap64 (bt a0 0)) (wrap64 (bt a0 1)) (wrap64 ((wrap64 (bt a0 2)) + (wrap64 (256 * (wrap64 (bt a0 3)))))) (wrap64 (t255)) (wrap64 (t257)) (js15) (a0.size : Int)).bind fun bt260 => (if bt260.2 = 0 then (if bt260.1.toList = a0.toList then (some (wrap64 (bt a0 0), wrap64 (bt a0 1), wrap64 ((wrap64 (bt a0 2)) + (wrap64 (256 * (wrap64 (bt a0 3))))), wrap64 (t255), wrap64 (t257), js15, 0)) else (some (0, 0, 0, 0, 0, (⟨#[]⟩ : ByteArray), 3))) else (some (0, 0, 0, 0, 0, (⟨#[]⟩ : ByteArray), 3)))) = some (r1, r2, r3, r4, r5, r6, r7) := by first | (rw [hjs15] at H; exact H) | (simp only [hjs15] at H ⊢; exact H)
 (try rw [hjs15] at A2)
 (try rw [hjs15] at A4)
 (try rw [hjs15] at A5)
 obtain ⟨⟨t260, t261⟩, A16, H⟩ := bN H
 (try dsimp only at H)
 by_cases c17 : t261 = 0
 rotate_left
 ·rw [if_neg c17] at H
  have c17b0 := beq_eq_false_iff_ne.mpr c17
  have c17b1 := bne_iff_ne.mpr c17
  simp only [Option.some.injEq, Prod.mk.injEq] at H
  obtain ⟨rfl, rfl, rfl, rfl, rfl, rfl, rfl⟩ := H
  go_enter Tryz.func40, Tryz.ntmps40
  try go_wp2_with (first | ((with_reducible refine gate_dst (N := 2) rfl ?_); refine box_event (by rfl) (N := 2) (by rfl) (cs := #[.int .i64 0, .int .i64 0, .int .i64 0, .int .i64 0, .int .i64 0]) (t := 71) gS ?_; intro gb253 hg w52 hbox hb; have BK253 := as_ (hbox); have GW253 := gw hg bA; have GE253 := gw hg bA; replace HB := as_ (below_step bA hb); clear hb hbox hg) | ((with_reducible refine gate_callee (f := 32) rfl ?_); refine goesL_ (some 14) rfl rfl Tryz.func32 (by kernel_rfl) rfl #[.int .i64 (a0.size : Int)] rfl aO ?_; (with_reducible refine (disk_Size.calls (a0.size : Int) true _ A2.out).mono ?_); rintro e w53 ⟨rfl, hb⟩; refine ⟨_, rfl, ?_⟩; replace BK253 := bb BK253 hb; replace HB := as_ (below_step bA hb); (try clear hb); (try clear hi)) | ((with_reducible refine gate_callee (f := 78) rfl ?_); refine goesL_ (some 19) rfl rfl Tryz.func78 (by kernel_rfl) rfl #[.string a0, .int .i64 4] rfl aO ?_; (with_reducible refine (word_Read.calls k a0 4 t255 t256 _ A4.out).mono ?_); rintro e w' ⟨rfl, ⟨nd, rfl⟩⟩; refine ⟨_, rfl, ?_⟩; (try (rw [drewN_self w53]; generalize hq_ : World.drewN w53 _ = w53; have n0_ : Aside0 (w53.heap[gb253]? = some (.cells #[.int .i64 0, .int .i64 0, .int .i64 0, .int .i64 0, .int .i64 0] 71 (0, 0))) := ⟨by rw [← hq_]; exact (bk BK253)⟩; have n1_ : Aside0 (Below w.heap.size w w53) := ⟨by rw [← hq_]; exact bA⟩; clear BK253 HB hq_; have BK253 := n0_; have HB := n1_; clear n0_ n1_))) | ((with_reducible refine gate_callee (f := 78) rfl ?_); refine goesL_ (some 24) rfl rfl Tryz.func78 (by kernel_rfl) rfl #[.string a0, .int .i64 8] rfl aO ?_; (with_reducible refine (word_Read.calls k a0 8 t257 t258 _ A5.out).mono ?_); rintro e w' ⟨rfl, ⟨nd, rfl⟩⟩; refine ⟨_, rfl, ?_⟩; (try (rw [drewN_self w53]; generalize hq_ : World.drewN w53 _ = w53; have n0_ : Aside0 (w53.heap[gb253]? = some (.cells #[.int .i64 0, .int .i64 0, .int .i64 0, .int .i64 0, .int .i64 0] 71 (0, 0))) := ⟨by rw [← hq_]; exact (bk BK253)⟩; have n1_ : Aside0 (Below w.heap.size w w53) := ⟨by rw [← hq_]; exact bA⟩; clear BK253 HB hq_; have BK253 := n0_; have HB := n1_; clear n0_ n1_))))
  replace BK253 := as_ (blk_drew BK253.out)
  replace HB := as_ (below_drew1 HB.out)
  have p7 : 0 ≤ (0 : Int) := (by omega)
  have q7 : 0 < a0.size := (by have : (0 : Int) < (a0.size : Int) := of_decide_eq_true aM; omega)
  have hx7 : ∀ h : 0 < a0.size, ((a0[0]'h).toNat : Int) = bt a0 0 := bt_at a0 0
  clear p7
  have qi7 : (0 < (a0.size : Int)) = True := eq_true (of_decide_eq_true aM)
  replace q7 := eq_true q7
  have p9 : 0 ≤ (1 : Int) := (by omega)
  have q9 : 1 < a0.size := (by have : (1 : Int) < (a0.size : Int) := of_decide_eq_true aM; omega)
  have hx9 : ∀ h : 1 < a0.size, ((a0[1]'h).toNat : Int) = bt a0 1 := bt_at a0 1
  clear p9
  have qi9 : (1 < (a0.size : Int)) = True := eq_true (of_decide_eq_true aM)
  replace q9 := eq_true q9
  have p11 : 0 ≤ (2 : Int) := (by omega)
  have q11 : 2 < a0.size := (by have : (2 : Int) < (a0.size : Int) := of_decide_eq_true aM; omega)
  have hx11 : ∀ h : 2 < a0.size, ((a0[2]'h).toNat : Int) = bt a0 2 := bt_at a0 2
  clear p11
  have qi11 : (2 < (a0.size : Int)) = True := eq_true (of_decide_eq_true aM)
  replace q11 := eq_true q11
  have p13 : 0 ≤ (3 : Int) := (by omega)
  have q13 : 3 < a0.size := (by have : (3 : Int) < (a0.size : Int) := of_decide_eq_true aM; omega)
  have hx13 : ∀ h : 3 < a0.size, ((a0[3]'h).toNat : Int) = bt a0 3 := bt_at a0 3
  clear p13
  have qi13 : (3 < (a0.size : Int)) = True := eq_true (of_decide_eq_true aM)
  replace q13 := eq_true q13
  refine start_ (n := 21) (S := fun w' => True) (ds := []) #[ff, ff, ff, ff, ff, ff, ff, ff, ff, ff, ff, ff, ff, ff, ff, ff, ff, ff, ff, ff, ff] (by kernel_rfl) rfl rfl trivial (fun hHeld => ?_); refine with_tabW head_Open.tab5 head_Open.bits5 (fun HT_ HW_ => ?_)
  generalize w53.drew = w54 at BK253 HB hHeld ⊢
  refine pu_ 0 (some 27) (mr [1, 20]) rfl rfl (h := ?_)
  refine pu_ 3 (some 30) (mr [1, 2, 1, 17]) rfl rfl (h := ?_)
  refine pu_ 6 (some 33) (mr [1, 2, 1, 2, 1, 14]) rfl rfl (h := ?_)
  refine pu_ 9 (some 36) (mr [1, 2, 1, 2, 1, 2, 1, 11]) rfl rfl (h := ?_)
  refine pu_ 14 (some 41) (mr [1, 2, 1, 2, 1, 2, 1, 4, 1, 6]) rfl rfl (h := ?_)
  refine pu_ 15 (some 42) (mr [1, 2, 1, 2, 1, 2, 1, 4, 2, 5]) rfl rfl (h := ?_)
  refine pu_ 16 (some 43) (mr [1, 2, 1, 2, 1, 2, 1, 4, 3, 4]) rfl rfl (h := ?_)
  refine pu_ 17 (some 44) (mr [1, 2, 1, 2, 1, 2, 1, 4, 4, 3]) rfl rfl (h := ?_)
  refine take_ (i := 1) (N := some 28) (v := ?_) (a' := ?_) (mr [2, 1, 1, 2, 1, 2, 1, 4, 4, 3]) rfl rfl (take_ofW HT_.out HW_.out (by kernel_rfl)) (fun _ _ _ h => h) (Or.inl ⟨by rfl, ?_⟩) hHeld ?_ ?_
  rotate_left
  ·intro w' _
   go_simp
   with_reducible rfl
  rotate_left
  ·exact aP
  refine pu_ 2 (some 29) (mr [4, 2, 1, 2, 1, 4, 4, 3]) rfl rfl (h := ?_)
  refine take_ (i := 4) (N := some 31) (v := ?_) (a' := ?_) (mr [5, 1, 1, 2, 1, 4, 4, 3]) rfl rfl (take_ofW HT_.out HW_.out (by kernel_rfl)) (fun _ _ _ h => h) (Or.inl ⟨by rfl, ?_⟩) hHeld ?_ ?_
  rotate_left
  ·intro w' _
   go_simp
   with_reducible rfl
  rotate_left
  ·exact aP
  refine pu_ 5 (some 32) (mr [7, 2, 1, 4, 4, 3]) rfl rfl (h := ?_)
  refine take_ (i := 7) (N := some 34) (v := ?_) (a' := ?_) (mr [8, 1, 1, 4, 4, 3]) rfl rfl (take_ofW HT_.out HW_.out (by kernel_rfl)) (fun _ _ _ h => h) (Or.inl ⟨by rfl, ?_⟩) hHeld ?_ ?_
  rotate_left
  ·intro w' _
   go_simp
   with_reducible rfl
  rotate_left
  ·exact aP
  refine pu_ 8 (some 35) (mr [10, 4, 4, 3]) rfl rfl (h := ?_)
  refine take_ (i := 10) (N := some 37) (v := ?_) (a' := ?_) (mr [11, 3, 4, 3]) rfl rfl (take_ofW HT_.out HW_.out (by kernel_rfl)) (fun _ _ _ h => h) (Or.inl ⟨by rfl, ?_⟩) hHeld ?_ ?_
  rotate_left
  ·intro w' _
   go_simp
   with_reducible rfl
  rotate_left
  ·exact aP
  refine pu_ 11 (some 38) (mr [12, 2, 4, 3]) rfl rfl (h := ?_)
  refine pu_ 12 (some 39) (mr [13, 1, 4, 3]) rfl rfl (h := ?_)
  refine pu_ 13 (some 40) (mr [18, 3]) rfl rfl (h := ?_)
  refine pu_ 18 (some 45) (mr [19, 2]) rfl rfl (h := ?_)
  refine one_ (i := 19) (N := some 9) (mr [20, 1]) rfl rfl (one_of HT_.out (by kernel_rfl)) (by decide) (fun K hK => ?_)
  refine box_step (by rfl) (N := 9) (by rfl) (cs := #[.int .i64 0, .int .i64 0, .int .i64 0, .int .i64 0, .int .i64 0]) (t := 71) gS ?_
  intro gb259 hg w55 hbox hb
  have BK259 := as_ (hbox)
  have GW259 := gw hg bA
  have GE259 := gw hg bA
  have NB253_259 := nl BK253 hg
  have NB259_253 := ng BK253 hg
  replace BK253 := bb BK253 hb
  replace HB := as_ (below_step bA hb)
  clear hb hbox hg
  refine hK.out _ _ trivial (fun hHeld => ?_)
  clear hK K
  refine nm_ (some 9) (h := ?_)
  refine one_ (i := 20) (N := none) (mr [21]) rfl rfl (one_of HT_.out (by kernel_rfl)) (by decide) (fun K hK => ?_)
  have hs56 : w55.cell? ⟨gb259, 0, none⟩ = some (.int .i64 0) := (blk_cell BK259.out 0).trans rfl
  have hfs56 := blk_frozen BK259.out 0
  have hns56_0 := NB253_259.out
  have hms56_0 := NB259_253.out
  have hs57 : w55.cell? ⟨gb259, 1, none⟩ = some (.int .i64 0) := (blk_cell BK259.out 1).trans rfl
  have hfs57 := blk_frozen BK259.out 1
  have hns57_0 := NB253_259.out
  have hms57_0 := NB259_253.out
  have hs58 : w55.cell? ⟨gb259, 2, none⟩ = some (.int .i64 0) := (blk_cell BK259.out 2).trans rfl
  have hfs58 := blk_frozen BK259.out 2
  have hns58_0 := NB253_259.out
  have hms58_0 := NB259_253.out
  have hs59 : w55.cell? ⟨gb259, 3, none⟩ = some (.int .i64 0) := (blk_cell BK259.out 3).trans rfl
  have hfs59 := blk_frozen BK259.out 3
  have hns59_0 := NB253_259.out
  have hms59_0 := NB259_253.out
  have hs60 : w55.cell? ⟨gb259, 4, none⟩ = some (.int .i64 0) := (blk_cell BK259.out 4).trans rfl
  have hfs60 := blk_frozen BK259.out 4
  have hns60_0 := NB253_259.out
  have hms60_0 := NB259_253.out
  refine skip_ (w1 := ?_) (by rfl) rfl ?_ ?_
  rotate_left
  ·go_simp
   rfl
  refine hK.out _ _ trivial (fun hHeld => ?_)
  clear hK K
  refine done_ (done_of HT_.out (by kernel_rfl)) ?_
  try go_wp2
  have n0_ : Aside0 ((((((w55.setCell ⟨gb259, 0, none⟩ (.int .i64 (wrap64 (bt a0 0)))).setCell ⟨gb259, 1, none⟩ (.int .i64 (wrap64 (bt a0 1)))).setCell ⟨gb259, 2, none⟩ (.int .i64 (wrap64 ((wrap64 (bt a0 2)) + (wrap64 (256 * (wrap64 (bt a0 3)))))))).setCell ⟨gb259, 3, none⟩ (.int .i64 (wrap64 (t255)))).setCell ⟨gb259, 4, none⟩ (.int .i64 (wrap64 (t257)))).heap[gb253]? = some (.cells #[.int .i64 0, .int .i64 0, .int .i64 0, .int .i64 0, .int .i64 0] 71 (0, 0))) := ⟨by refine bx ?_; refine blk_far ?_ NB253_259.out _; refine bx ?_; refine blk_far ?_ NB253_259.out _; refine bx ?_; refine blk_far ?_ NB253_259.out _; refine bx ?_; refine blk_far ?_ NB253_259.out _; refine bx ?_; refine blk_far ?_ NB253_259.out _; refine bx ?_; exact BK253.out⟩
  have n1_ : Aside0 ((((((w55.setCell ⟨gb259, 0, none⟩ (.int .i64 (wrap64 (bt a0 0)))).setCell ⟨gb259, 1, none⟩ (.int .i64 (wrap64 (bt a0 1)))).setCell ⟨gb259, 2, none⟩ (.int .i64 (wrap64 ((wrap64 (bt a0 2)) + (wrap64 (256 * (wrap64 (bt a0 3)))))))).setCell ⟨gb259, 3, none⟩ (.int .i64 (wrap64 (t255)))).setCell ⟨gb259, 4, none⟩ (.int .i64 (wrap64 (t257)))).heap[gb259]? = some (.cells #[.int .i64 (wrap64 (bt a0 0)), .int .i64 (wrap64 (bt a0 1)), .int .i64 (wrap64 ((wrap64 (bt a0 2)) + (wrap64 (256 * (wrap64 (bt a0 3)))))), .int .i64 (wrap64 (t255)), .int .i64 (wrap64 (t257))] 71 (0, 0))) := ⟨by refine bx ?_; refine blk_put (cs := #[.int .i64 (wrap64 (bt a0 0)), .int .i64 (wrap64 (bt a0 1)), .int .i64 (wrap64 ((wrap64 (bt a0 2)) + (wrap64 (256 * (wrap64 (bt a0 3)))))), .int .i64 (wrap64 (t255)), .int .i64 0]) ?_ 4 _ rfl; refine bx ?_; refine blk_put (cs := #[.int .i64 (wrap64 (bt a0 0)), .int .i64 (wrap64 (bt a0 1)), .int .i64 (wrap64 ((wrap64 (bt a0 2)) + (wrap64 (256 * (wrap64 (bt a0 3)))))), .int .i64 0, .int .i64 0]) ?_ 3 _ rfl; refine bx ?_; refine blk_put (cs := #[.int .i64 (wrap64 (bt a0 0)), .int .i64 (wrap64 (bt a0 1)), .int .i64 0, .int .i64 0, .int .i64 0]) ?_ 2 _ rfl; refine bx ?_; refine blk_put (cs := #[.int .i64 (wrap64 (bt a0 0)), .int .i64 0, .int .i64 0, .int .i64 0, .int .i64 0]) ?_ 1 _ rfl; refine bx ?_; refine blk_put (cs := #[.int .i64 0, .int .i64 0, .int .i64 0, .int .i64 0, .int .i64 0]) ?_ 0 _ rfl; refine bx ?_; exact BK259.out⟩
  have n2_ : Aside0 (Below w.heap.size w (((((w55.setCell ⟨gb259, 0, none⟩ (.int .i64 (wrap64 (bt a0 0)))).setCell ⟨gb259, 1, none⟩ (.int .i64 (wrap64 (bt a0 1)))).setCell ⟨gb259, 2, none⟩ (.int .i64 (wrap64 ((wrap64 (bt a0 2)) + (wrap64 (256 * (wrap64 (bt a0 3)))))))).setCell ⟨gb259, 3, none⟩ (.int .i64 (wrap64 (t255)))).setCell ⟨gb259, 4, none⟩ (.int .i64 (wrap64 (t257))))) := ⟨bA⟩
  (try clear BK253)
  (try clear BK259)
  (try clear HB)
  generalize (((((w55.setCell ⟨gb259, 0, none⟩ (.int .i64 (wrap64 (bt a0 0)))).setCell ⟨gb259, 1, none⟩ (.int .i64 (wrap64 (bt a0 1)))).setCell ⟨gb259, 2, none⟩ (.int .i64 (wrap64 ((wrap64 (bt a0 2)) + (wrap64 (256 * (wrap64 (bt a0 3)))))))).setCell ⟨gb259, 3, none⟩ (.int .i64 (wrap64 (t255)))).setCell ⟨gb259, 4, none⟩ (.int .i64 (wrap64 (t257)))) = w61 at n0_ n1_ n2_ ⊢
  have BK253 := n0_
  have BK259 := n1_
  have HB := n2_
  clear n0_ n1_ n2_
  replace BK253 := as_ (blk_drew BK253.out)
  replace BK259 := as_ (blk_drew BK259.out)
  replace HB := as_ (below_drew1 HB.out)
  refine start_ (n := 11) (S := fun w' => w'.cell? ⟨gb259, 0, none⟩ = some (.int .i64 (wrap64 (bt a0 0))) ∧ w'.cell? ⟨gb259, 1, none⟩ = some (.int .i64 (wrap64 (bt a0 1))) ∧ w'.cell? ⟨gb259, 2, none⟩ = some (.int .i64 (wrap64 ((wrap64 (bt a0 2)) + (wrap64 (256 * (wrap64 (bt a0 3))))))) ∧ w'.cell? ⟨gb259, 3, none⟩ = some (.int .i64 (wrap64 (t255))) ∧ w'.cell? ⟨gb259, 4, none⟩ = some (.int .i64 (wrap64 (t257)))) (ds := []) #[ff, ff, ff, ff, ff, ff, ff, ff, ff, ff, ff] (by kernel_rfl) rfl rfl ⟨(blk_cell BK259.out 0).trans rfl, (blk_cell BK259.out 1).trans rfl, (blk_cell BK259.out 2).trans rfl, (blk_cell BK259.out 3).trans rfl, (blk_cell BK259.out 4).trans rfl⟩ (fun hHeld => ?_); refine with_tabW head_Open.tab6 head_Open.bits6 (fun HT_ HW_ => ?_)
  generalize w61.drew = w62 at BK253 BK259 HB hHeld ⊢
  refine pu_ 1 (some 48) (mr [0, 1, 1, 9]) rfl rfl (h := ?_)
  refine pu_ 2 (some 49) (mr [0, 1, 2, 8]) rfl rfl (h := ?_)
  refine pu_ 3 (some 50) (mr [0, 1, 3, 7]) rfl rfl (h := ?_)
  refine pu_ 4 (some 51) (mr [0, 1, 4, 6]) rfl rfl (h := ?_)
  refine take_ (i := 0) (N := some 47) (v := ?_) (a' := ?_) (mr [5, 6]) rfl rfl (take_ofW HT_.out HW_.out (by kernel_rfl)) (fun _ _ _ h => h) (Or.inl ⟨by rfl, ?_⟩) hHeld ?_ ?_
  rotate_left
  ·rintro w' ⟨s0, s1, s2, s3, s4⟩
   go_simp
   with_reducible rfl
  rotate_left
  ·exact aP
  refine one_ (i := 5) (N := some 52) (mr [6, 5]) rfl rfl (one_of HT_.out (by kernel_rfl)) (by decide) (fun K hK => ?_)
  refine goes_ Tryz.func35 (by kernel_rfl) rfl #[.agg #[.int .i64 (wrap64 (bt a0 0)), .int .i64 (wrap64 (bt a0 1)), .int .i64 (wrap64 ((wrap64 (bt a0 2)) + (wrap64 (256 * (wrap64 (bt a0 3)))))), .int .i64 (wrap64 (t255)), .int .i64 (wrap64 (t257))], .string js15, .int .i64 (a0.size : Int)] (by rfl) rfl rfl aO ?_
  with_reducible refine (head_Seal.calls k (wrap64 (bt a0 0)) (wrap64 (bt a0 1)) (wrap64 ((wrap64 (bt a0 2)) + (wrap64 (256 * (wrap64 (bt a0 3)))))) (wrap64 (t255)) (wrap64 (t257)) js15 (a0.size : Int) t260 t261 _ A16.out).mono ?_
  rintro e w63 ⟨rfl, hb⟩
  refine ⟨_, rfl, ?_⟩
  replace BK253 := bb BK253 hb
  replace BK259 := bb BK259 hb
  replace HB := as_ (below_step bA hb)
  (try clear hb)
  (try clear hb2)
  (try clear hk)
  (try clear hi)
  refine hK.out _ _ ⟨(blk_cell BK259.out 0).trans rfl, (blk_cell BK259.out 1).trans rfl, (blk_cell BK259.out 2).trans rfl, (blk_cell BK259.out 3).trans rfl, (blk_cell BK259.out 4).trans rfl⟩ (fun hHeld => ?_)
  clear hK K
  refine nm_ (some 52) (h := ?_)
  refine pu_ 6 (some 46) (mr [7, 4]) rfl rfl (h := ?_)
  refine pu_ 7 (some 53) (mr [8, 3]) rfl rfl (h := ?_)
  refine pu_ 8 (some 54) (mr [9, 2]) rfl rfl (h := ?_)
  refine pu_ 9 (some 10) (mr [10, 1]) rfl rfl (h := ?_)
  refine pu_ 10 (some 11) (mr [11]) rfl rfl (h := ?_)
  refine done_ (done_of HT_.out (by kernel_rfl)) ?_
  have hnb64 := NB253_259.out
  have hnc64 := NB259_253.out
  obtain ⟨hcz65_0, hcz65_1, hcz65_2, hcz65_3, hcz65_4⟩ := zc5 BK253
  obtain ⟨hfz65_0, hfz65_1, hfz65_2, hfz65_3, hfz65_4⟩ := zf5 BK253
  try go_wp2
  refine bodyPost_ret (results_ctt rfl _ _ gb253 71 #[.int .i64 0, .int .i64 0, .int .i64 0, .int .i64 0, .int .i64 0] (0, 0) _ rfl (by refine bx ?_; refine blk_put (cs := #[.int .i64 0, .int .i64 0, .int .i64 0, .int .i64 0, .int .i64 0]) ?_ 4 _ rfl; refine bx ?_; refine blk_put (cs := #[.int .i64 0, .int .i64 0, .int .i64 0, .int .i64 0, .int .i64 0]) ?_ 3 _ rfl; refine bx ?_; refine blk_put (cs := #[.int .i64 0, .int .i64 0, .int .i64 0, .int .i64 0, .int .i64 0]) ?_ 2 _ rfl; refine bx ?_; refine blk_put (cs := #[.int .i64 0, .int .i64 0, .int .i64 0, .int .i64 0, .int .i64 0]) ?_ 1 _ rfl; refine bx ?_; refine blk_put (cs := #[.int .i64 0, .int .i64 0, .int .i64 0, .int .i64 0, .int .i64 0]) ?_ 0 _ rfl; refine bx ?_; exact BK253.out) Tryz.underlying71 rfl (by kernel_rfl)) rfl ?_
  exact ⟨by first | rfl | (simp [errW_none, errW_some] <;> rfl) | (simp only [← hjs15]; first | rfl | (simp [errW_none, errW_some] <;> rfl)) | (simp [*, errW_none, errW_some] <;> rfl), bA⟩
 rw [if_pos c17] at H
 have c17b0 := beq_iff_eq.mpr c17
 have c17b1 := bne_eq_false_iff_eq.mpr c17
 clear c17
 by_cases c18 : t260.toList = a0.toList
 rotate_left
 ·rw [if_neg c18] at H
  have c18b0 := beq_eq_false_iff_ne.mpr c18
  have c18b1 := bne_iff_ne.mpr c18
  simp only [Option.some.injEq, Prod.mk.injEq] at H
  obtain ⟨rfl, rfl, rfl, rfl, rfl, rfl, rfl⟩ := H
  go_enter Tryz.func40, Tryz.ntmps40
  try go_wp2_with (first | ((with_reducible refine gate_dst (N := 2) rfl ?_); refine box_event (by rfl) (N := 2) (by rfl) (cs := #[.int .i64 0, .int .i64 0, .int .i64 0, .int .i64 0, .int .i64 0]) (t := 71) gS ?_; intro gb253 hg w38 hbox hb; have BK253 := as_ (hbox); have GW253 := gw hg bA; have GE253 := gw hg bA; replace HB := as_ (below_step bA hb); clear hb hbox hg) | ((with_reducible refine gate_callee (f := 32) rfl ?_); refine goesL_ (some 14) rfl rfl Tryz.func32 (by kernel_rfl) rfl #[.int .i64 (a0.size : Int)] rfl aO ?_; (with_reducible refine (disk_Size.calls (a0.size : Int) true _ A2.out).mono ?_); rintro e w39 ⟨rfl, hb⟩; refine ⟨_, rfl, ?_⟩; replace BK253 := bb BK253 hb; replace HB := as_ (below_step bA hb); (try clear hb); (try clear hi)) | ((with_reducible refine gate_callee (f := 78) rfl ?_); refine goesL_ (some 19) rfl rfl Tryz.func78 (by kernel_rfl) rfl #[.string a0, .int .i64 4] rfl aO ?_; (with_reducible refine (word_Read.calls k a0 4 t255 t256 _ A4.out).mono ?_); rintro e w' ⟨rfl, ⟨nd, rfl⟩⟩; refine ⟨_, rfl, ?_⟩; (try (rw [drewN_self w39]; generalize hq_ : World.drewN w39 _ = w39; have n0_ : Aside0 (w39.heap[gb253]? = some (.cells #[.int .i64 0, .int .i64 0, .int .i64 0, .int .i64 0, .int .i64 0] 71 (0, 0))) := ⟨by rw [← hq_]; exact (bk BK253)⟩; have n1_ : Aside0 (Below w.heap.size w w39) := ⟨by rw [← hq_]; exact bA⟩; clear BK253 HB hq_; have BK253 := n0_; have HB := n1_; clear n0_ n1_))) | ((with_reducible refine gate_callee (f := 78) rfl ?_); refine goesL_ (some 24) rfl rfl Tryz.func78 (by kernel_rfl) rfl #[.string a0, .int .i64 8] rfl aO ?_; (with_reducible refine (word_Read.calls k a0 8 t257 t258 _ A5.out).mono ?_); rintro e w' ⟨rfl, ⟨nd, rfl⟩⟩; refine ⟨_, rfl, ?_⟩; (try (rw [drewN_self w39]; generalize hq_ : World.drewN w39 _ = w39; have n0_ : Aside0 (w39.heap[gb253]? = some (.cells #[.int .i64 0, .int .i64 0, .int .i64 0, .int .i64 0, .int .i64 0] 71 (0, 0))) := ⟨by rw [← hq_]; exact (bk BK253)⟩; have n1_ : Aside0 (Below w.heap.size w w39) := ⟨by rw [← hq_]; exact bA⟩; clear BK253 HB hq_; have BK253 := n0_; have HB := n1_; clear n0_ n1_))))
  replace BK253 := as_ (blk_drew BK253.out)
  replace HB := as_ (below_drew1 HB.out)
  have p7 : 0 ≤ (0 : Int) := (by omega)
  have q7 : 0 < a0.size := (by have : (0 : Int) < (a0.size : Int) := of_decide_eq_true aM; omega)
  have hx7 : ∀ h : 0 < a0.size, ((a0[0]'h).toNat : Int) = bt a0 0 := bt_at a0 0
  clear p7
  have qi7 : (0 < (a0.size : Int)) = True := eq_true (of_decide_eq_true aM)
  replace q7 := eq_true q7
  have p9 : 0 ≤ (1 : Int) := (by omega)
  have q9 : 1 < a0.size := (by have : (1 : Int) < (a0.size : Int) := of_decide_eq_true aM; omega)
  have hx9 : ∀ h : 1 < a0.size, ((a0[1]'h).toNat : Int) = bt a0 1 := bt_at a0 1
  clear p9
  have qi9 : (1 < (a0.size : Int)) = True := eq_true (of_decide_eq_true aM)
  replace q9 := eq_true q9
  have p11 : 0 ≤ (2 : Int) := (by omega)
  have q11 : 2 < a0.size := (by have : (2 : Int) < (a0.size : Int) := of_decide_eq_true aM; omega)
  have hx11 : ∀ h : 2 < a0.size, ((a0[2]'h).toNat : Int) = bt a0 2 := bt_at a0 2
  clear p11
  have qi11 : (2 < (a0.size : Int)) = True := eq_true (of_decide_eq_true aM)
  replace q11 := eq_true q11
  have p13 : 0 ≤ (3 : Int) := (by omega)
  have q13 : 3 < a0.size := (by have : (3 : Int) < (a0.size : Int) := of_decide_eq_true aM; omega)
  have hx13 : ∀ h : 3 < a0.size, ((a0[3]'h).toNat : Int) = bt a0 3 := bt_at a0 3
  clear p13
  have qi13 : (3 < (a0.size : Int)) = True := eq_true (of_decide_eq_true aM)
  replace q13 := eq_true q13
  refine start_ (n := 21) (S := fun w' => True) (ds := []) #[ff, ff, ff, ff, ff, ff, ff, ff, ff, ff, ff, ff, ff, ff, ff, ff, ff, ff, ff, ff, ff] (by kernel_rfl) rfl rfl trivial (fun hHeld => ?_); refine with_tabW head_Open.tab5 head_Open.bits5 (fun HT_ HW_ => ?_)
  generalize w39.drew = w40 at BK253 HB hHeld ⊢
  refine pu_ 0 (some 27) (mr [1, 20]) rfl rfl (h := ?_)
  refine pu_ 3 (some 30) (mr [1, 2, 1, 17]) rfl rfl (h := ?_)
  refine pu_ 6 (some 33) (mr [1, 2, 1, 2, 1, 14]) rfl rfl (h := ?_)
  refine pu_ 9 (some 36) (mr [1, 2, 1, 2, 1, 2, 1, 11]) rfl rfl (h := ?_)
  refine pu_ 14 (some 41) (mr [1, 2, 1, 2, 1, 2, 1, 4, 1, 6]) rfl rfl (h := ?_)
  refine pu_ 15 (some 42) (mr [1, 2, 1, 2, 1, 2, 1, 4, 2, 5]) rfl rfl (h := ?_)
  refine pu_ 16 (some 43) (mr [1, 2, 1, 2, 1, 2, 1, 4, 3, 4]) rfl rfl (h := ?_)
  refine pu_ 17 (some 44) (mr [1, 2, 1, 2, 1, 2, 1, 4, 4, 3]) rfl rfl (h := ?_)
  refine take_ (i := 1) (N := some 28) (v := ?_) (a' := ?_) (mr [2, 1, 1, 2, 1, 2, 1, 4, 4, 3]) rfl rfl (take_ofW HT_.out HW_.out (by kernel_rfl)) (fun _ _ _ h => h) (Or.inl ⟨by rfl, ?_⟩) hHeld ?_ ?_
  rotate_left
  ·intro w' _
   go_simp
   with_reducible rfl
  rotate_left
  ·exact aP
  refine pu_ 2 (some 29) (mr [4, 2, 1, 2, 1, 4, 4, 3]) rfl rfl (h := ?_)
  refine take_ (i := 4) (N := some 31) (v := ?_) (a' := ?_) (mr [5, 1, 1, 2, 1, 4, 4, 3]) rfl rfl (take_ofW HT_.out HW_.out (by kernel_rfl)) (fun _ _ _ h => h) (Or.inl ⟨by rfl, ?_⟩) hHeld ?_ ?_
  rotate_left
  ·intro w' _
   go_simp
   with_reducible rfl
  rotate_left
  ·exact aP
  refine pu_ 5 (some 32) (mr [7, 2, 1, 4, 4, 3]) rfl rfl (h := ?_)
  refine take_ (i := 7) (N := some 34) (v := ?_) (a' := ?_) (mr [8, 1, 1, 4, 4, 3]) rfl rfl (take_ofW HT_.out HW_.out (by kernel_rfl)) (fun _ _ _ h => h) (Or.inl ⟨by rfl, ?_⟩) hHeld ?_ ?_
  rotate_left
  ·intro w' _
   go_simp
   with_reducible rfl
  rotate_left
  ·exact aP
  refine pu_ 8 (some 35) (mr [10, 4, 4, 3]) rfl rfl (h := ?_)
  refine take_ (i := 10) (N := some 37) (v := ?_) (a' := ?_) (mr [11, 3, 4, 3]) rfl rfl (take_ofW HT_.out HW_.out (by kernel_rfl)) (fun _ _ _ h => h) (Or.inl ⟨by rfl, ?_⟩) hHeld ?_ ?_
  rotate_left
  ·intro w' _
   go_simp
   with_reducible rfl
  rotate_left
  ·exact aP
  refine pu_ 11 (some 38) (mr [12, 2, 4, 3]) rfl rfl (h := ?_)
  refine pu_ 12 (some 39) (mr [13, 1, 4, 3]) rfl rfl (h := ?_)
  refine pu_ 13 (some 40) (mr [18, 3]) rfl rfl (h := ?_)
  refine pu_ 18 (some 45) (mr [19, 2]) rfl rfl (h := ?_)
  refine one_ (i := 19) (N := some 9) (mr [20, 1]) rfl rfl (one_of HT_.out (by kernel_rfl)) (by decide) (fun K hK => ?_)
  refine box_step (by rfl) (N := 9) (by rfl) (cs := #[.int .i64 0, .int .i64 0, .int .i64 0, .int .i64 0, .int .i64 0]) (t := 71) gS ?_
  intro gb259 hg w41 hbox hb
  have BK259 := as_ (hbox)
  have GW259 := gw hg bA
  have GE259 := gw hg bA
  have NB253_259 := nl BK253 hg
  have NB259_253 := ng BK253 hg
  replace BK253 := bb BK253 hb
  replace HB := as_ (below_step bA hb)
  clear hb hbox hg
  refine hK.out _ _ trivial (fun hHeld => ?_)
  clear hK K
  refine nm_ (some 9) (h := ?_)
  refine one_ (i := 20) (N := none) (mr [21]) rfl rfl (one_of HT_.out (by kernel_rfl)) (by decide) (fun K hK => ?_)
  have hs42 : w41.cell? ⟨gb259, 0, none⟩ = some (.int .i64 0) := (blk_cell BK259.out 0).trans rfl
  have hfs42 := blk_frozen BK259.out 0
  have hns42_0 := NB253_259.out
  have hms42_0 := NB259_253.out
  have hs43 : w41.cell? ⟨gb259, 1, none⟩ = some (.int .i64 0) := (blk_cell BK259.out 1).trans rfl
  have hfs43 := blk_frozen BK259.out 1
  have hns43_0 := NB253_259.out
  have hms43_0 := NB259_253.out
  have hs44 : w41.cell? ⟨gb259, 2, none⟩ = some (.int .i64 0) := (blk_cell BK259.out 2).trans rfl
  have hfs44 := blk_frozen BK259.out 2
  have hns44_0 := NB253_259.out
  have hms44_0 := NB259_253.out
  have hs45 : w41.cell? ⟨gb259, 3, none⟩ = some (.int .i64 0) := (blk_cell BK259.out 3).trans rfl
  have hfs45 := blk_frozen BK259.out 3
  have hns45_0 := NB253_259.out
  have hms45_0 := NB259_253.out
  have hs46 : w41.cell? ⟨gb259, 4, none⟩ = some (.int .i64 0) := (blk_cell BK259.out 4).trans rfl
  have hfs46 := blk_frozen BK259.out 4
  have hns46_0 := NB253_259.out
  have hms46_0 := NB259_253.out
  refine skip_ (w1 := ?_) (by rfl) rfl ?_ ?_
  rotate_left
  ·go_simp
   rfl
  refine hK.out _ _ trivial (fun hHeld => ?_)
  clear hK K
  refine done_ (done_of HT_.out (by kernel_rfl)) ?_
  try go_wp2
  have n0_ : Aside0 ((((((w41.setCell ⟨gb259, 0, none⟩ (.int .i64 (wrap64 (bt a0 0)))).setCell ⟨gb259, 1, none⟩ (.int .i64 (wrap64 (bt a0 1)))).setCell ⟨gb259, 2, none⟩ (.int .i64 (wrap64 ((wrap64 (bt a0 2)) + (wrap64 (256 * (wrap64 (bt a0 3)))))))).setCell ⟨gb259, 3, none⟩ (.int .i64 (wrap64 (t255)))).setCell ⟨gb259, 4, none⟩ (.int .i64 (wrap64 (t257)))).heap[gb253]? = some (.cells #[.int .i64 0, .int .i64 0, .int .i64 0, .int .i64 0, .int .i64 0] 71 (0, 0))) := ⟨by refine bx ?_; refine blk_far ?_ NB253_259.out _; refine bx ?_; refine blk_far ?_ NB253_259.out _; refine bx ?_; refine blk_far ?_ NB253_259.out _; refine bx ?_; refine blk_far ?_ NB253_259.out _; refine bx ?_; refine blk_far ?_ NB253_259.out _; refine bx ?_; exact BK253.out⟩
  have n1_ : Aside0 ((((((w41.setCell ⟨gb259, 0, none⟩ (.int .i64 (wrap64 (bt a0 0)))).setCell ⟨gb259, 1, none⟩ (.int .i64 (wrap64 (bt a0 1)))).setCell ⟨gb259, 2, none⟩ (.int .i64 (wrap64 ((wrap64 (bt a0 2)) + (wrap64 (256 * (wrap64 (bt a0 3)))))))).setCell ⟨gb259, 3, none⟩ (.int .i64 (wrap64 (t255)))).setCell ⟨gb259, 4, none⟩ (.int .i64 (wrap64 (t257)))).heap[gb259]? = some (.cells #[.int .i64 (wrap64 (bt a0 0)), .int .i64 (wrap64 (bt a0 1)), .int .i64 (wrap64 ((wrap64 (bt a0 2)) + (wrap64 (256 * (wrap64 (bt a0 3)))))), .int .i64 (wrap64 (t255)), .int .i64 (wrap64 (t257))] 71 (0, 0))) := ⟨by refine bx ?_; refine blk_put (cs := #[.int .i64 (wrap64 (bt a0 0)), .int .i64 (wrap64 (bt a0 1)), .int .i64 (wrap64 ((wrap64 (bt a0 2)) + (wrap64 (256 * (wrap64 (bt a0 3)))))), .int .i64 (wrap64 (t255)), .int .i64 0]) ?_ 4 _ rfl; refine bx ?_; refine blk_put (cs := #[.int .i64 (wrap64 (bt a0 0)), .int .i64 (wrap64 (bt a0 1)), .int .i64 (wrap64 ((wrap64 (bt a0 2)) + (wrap64 (256 * (wrap64 (bt a0 3)))))), .int .i64 0, .int .i64 0]) ?_ 3 _ rfl; refine bx ?_; refine blk_put (cs := #[.int .i64 (wrap64 (bt a0 0)), .int .i64 (wrap64 (bt a0 1)), .int .i64 0, .int .i64 0, .int .i64 0]) ?_ 2 _ rfl; refine bx ?_; refine blk_put (cs := #[.int .i64 (wrap64 (bt a0 0)), .int .i64 0, .int .i64 0, .int .i64 0, .int .i64 0]) ?_ 1 _ rfl; refine bx ?_; refine blk_put (cs := #[.int .i64 0, .int .i64 0, .int .i64 0, .int .i64 0, .int .i64 0]) ?_ 0 _ rfl; refine bx ?_; exact BK259.out⟩
  have n2_ : Aside0 (Below w.heap.size w (((((w41.setCell ⟨gb259, 0, none⟩ (.int .i64 (wrap64 (bt a0 0)))).setCell ⟨gb259, 1, none⟩ (.int .i64 (wrap64 (bt a0 1)))).setCell ⟨gb259, 2, none⟩ (.int .i64 (wrap64 ((wrap64 (bt a0 2)) + (wrap64 (256 * (wrap64 (bt a0 3)))))))).setCell ⟨gb259, 3, none⟩ (.int .i64 (wrap64 (t255)))).setCell ⟨gb259, 4, none⟩ (.int .i64 (wrap64 (t257))))) := ⟨bA⟩
  (try clear BK253)
  (try clear BK259)
  (try clear HB)
  generalize (((((w41.setCell ⟨gb259, 0, none⟩ (.int .i64 (wrap64 (bt a0 0)))).setCell ⟨gb259, 1, none⟩ (.int .i64 (wrap64 (bt a0 1)))).setCell ⟨gb259, 2, none⟩ (.int .i64 (wrap64 ((wrap64 (bt a0 2)) + (wrap64 (256 * (wrap64 (bt a0 3)))))))).setCell ⟨gb259, 3, none⟩ (.int .i64 (wrap64 (t255)))).setCell ⟨gb259, 4, none⟩ (.int .i64 (wrap64 (t257)))) = w47 at n0_ n1_ n2_ ⊢
  have BK253 := n0_
  have BK259 := n1_
  have HB := n2_
  clear n0_ n1_ n2_
  replace BK253 := as_ (blk_drew BK253.out)
  replace BK259 := as_ (blk_drew BK259.out)
  replace HB := as_ (below_drew1 HB.out)
  refine start_ (n := 11) (S := fun w' => w'.cell? ⟨gb259, 0, none⟩ = some (.int .i64 (wrap64 (bt a0 0))) ∧ w'.cell? ⟨gb259, 1, none⟩ = some (.int .i64 (wrap64 (bt a0 1))) ∧ w'.cell? ⟨gb259, 2, none⟩ = some (.int .i64 (wrap64 ((wrap64 (bt a0 2)) + (wrap64 (256 * (wrap64 (bt a0 3))))))) ∧ w'.cell? ⟨gb259, 3, none⟩ = some (.int .i64 (wrap64 (t255))) ∧ w'.cell? ⟨gb259, 4, none⟩ = some (.int .i64 (wrap64 (t257)))) (ds := []) #[ff, ff, ff, ff, ff, ff, ff, ff, ff, ff, ff] (by kernel_rfl) rfl rfl ⟨(blk_cell BK259.out 0).trans rfl, (blk_cell BK259.out 1).trans rfl, (blk_cell BK259.out 2).trans rfl, (blk_cell BK259.out 3).trans rfl, (blk_cell BK259.out 4).trans rfl⟩ (fun hHeld => ?_); refine with_tabW head_Open.tab6 head_Open.bits6 (fun HT_ HW_ => ?_)
  generalize w47.drew = w48 at BK253 BK259 HB hHeld ⊢
  refine pu_ 1 (some 48) (mr [0, 1, 1, 9]) rfl rfl (h := ?_)
  refine pu_ 2 (some 49) (mr [0, 1, 2, 8]) rfl rfl (h := ?_)
  refine pu_ 3 (some 50) (mr [0, 1, 3, 7]) rfl rfl (h := ?_)
  refine pu_ 4 (some 51) (mr [0, 1, 4, 6]) rfl rfl (h := ?_)
  refine take_ (i := 0) (N := some 47) (v := ?_) (a' := ?_) (mr [5, 6]) rfl rfl (take_ofW HT_.out HW_.out (by kernel_rfl)) (fun _ _ _ h => h) (Or.inl ⟨by rfl, ?_⟩) hHeld ?_ ?_
  rotate_left
  ·rintro w' ⟨s0, s1, s2, s3, s4⟩
   go_simp
   with_reducible rfl
  rotate_left
  ·exact aP
  refine one_ (i := 5) (N := some 52) (mr [6, 5]) rfl rfl (one_of HT_.out (by kernel_rfl)) (by decide) (fun K hK => ?_)
  refine goes_ Tryz.func35 (by kernel_rfl) rfl #[.agg #[.int .i64 (wrap64 (bt a0 0)), .int .i64 (wrap64 (bt a0 1)), .int .i64 (wrap64 ((wrap64 (bt a0 2)) + (wrap64 (256 * (wrap64 (bt a0 3)))))), .int .i64 (wrap64 (t255)), .int .i64 (wrap64 (t257))], .string js15, .int .i64 (a0.size : Int)] (by rfl) rfl rfl aO ?_
  with_reducible refine (head_Seal.calls k (wrap64 (bt a0 0)) (wrap64 (bt a0 1)) (wrap64 ((wrap64 (bt a0 2)) + (wrap64 (256 * (wrap64 (bt a0 3)))))) (wrap64 (t255)) (wrap64 (t257)) js15 (a0.size : Int) t260 t261 _ A16.out).mono ?_
  rintro e w49 ⟨rfl, hb⟩
  refine ⟨_, rfl, ?_⟩
  replace BK253 := bb BK253 hb
  replace BK259 := bb BK259 hb
  replace HB := as_ (below_step bA hb)
  (try clear hb)
  (try clear hb2)
  (try clear hk)
  (try clear hi)
  refine hK.out _ _ ⟨(blk_cell BK259.out 0).trans rfl, (blk_cell BK259.out 1).trans rfl, (blk_cell BK259.out 2).trans rfl, (blk_cell BK259.out 3).trans rfl, (blk_cell BK259.out 4).trans rfl⟩ (fun hHeld => ?_)
  clear hK K
  refine nm_ (some 52) (h := ?_)
  refine pu_ 6 (some 46) (mr [7, 4]) rfl rfl (h := ?_)
  refine pu_ 7 (some 53) (mr [8, 3]) rfl rfl (h := ?_)
  refine pu_ 8 (some 54) (mr [9, 2]) rfl rfl (h := ?_)
  refine pu_ 9 (some 10) (mr [10, 1]) rfl rfl (h := ?_)
  refine pu_ 10 (some 11) (mr [11]) rfl rfl (h := ?_)
  refine done_ (done_of HT_.out (by kernel_rfl)) ?_
  have hnb50 := NB253_259.out
  have hnc50 := NB259_253.out
  obtain ⟨hcz51_0, hcz51_1, hcz51_2, hcz51_3, hcz51_4⟩ := zc5 BK253
  obtain ⟨hfz51_0, hfz51_1, hfz51_2, hfz51_3, hfz51_4⟩ := zf5 BK253
  try go_wp2
  refine bodyPost_ret (results_ctt rfl _ _ gb253 71 #[.int .i64 0, .int .i64 0, .int .i64 0, .int .i64 0, .int .i64 0] (0, 0) _ rfl (by refine bx ?_; refine blk_put (cs := #[.int .i64 0, .int .i64 0, .int .i64 0, .int .i64 0, .int .i64 0]) ?_ 4 _ rfl; refine bx ?_; refine blk_put (cs := #[.int .i64 0, .int .i64 0, .int .i64 0, .int .i64 0, .int .i64 0]) ?_ 3 _ rfl; refine bx ?_; refine blk_put (cs := #[.int .i64 0, .int .i64 0, .int .i64 0, .int .i64 0, .int .i64 0]) ?_ 2 _ rfl; refine bx ?_; refine blk_put (cs := #[.int .i64 0, .int .i64 0, .int .i64 0, .int .i64 0, .int .i64 0]) ?_ 1 _ rfl; refine bx ?_; refine blk_put (cs := #[.int .i64 0, .int .i64 0, .int .i64 0, .int .i64 0, .int .i64 0]) ?_ 0 _ rfl; refine bx ?_; exact BK253.out) Tryz.underlying71 rfl (by kernel_rfl)) rfl ?_
  exact ⟨by first | rfl | (simp [errW_none, errW_some] <;> rfl) | (simp only [← hjs15]; first | rfl | (simp [errW_none, errW_some] <;> rfl)) | (simp [*, errW_none, errW_some] <;> rfl), bA⟩
 rw [if_pos c18] at H
 have c18b0 := beq_iff_eq.mpr c18
 have c18b1 := bne_eq_false_iff_eq.mpr c18
 clear c18
 have c19b0 := eq_true (of_decide_eq_true aM : 16 ≤ (a0.size : Int))
 simp only [Option.some.injEq, Prod.mk.injEq] at H
 obtain ⟨rfl, rfl, rfl, rfl, rfl, rfl, rfl⟩ := H
 go_enter Tryz.func40, Tryz.ntmps40
 try go_wp2_with (first | ((with_reducible refine gate_dst (N := 2) rfl ?_); refine box_event (by rfl) (N := 2) (by rfl) (cs := #[.int .i64 0, .int .i64 0, .int .i64 0, .int .i64 0, .int .i64 0]) (t := 71) gS ?_; intro gb253 hg w20 hbox hb; have BK253 := as_ (hbox); have GW253 := gw hg bA; have GE253 := gw hg bA; replace HB := as_ (below_step bA hb); clear hb hbox hg) | ((with_reducible refine gate_callee (f := 32) rfl ?_); refine goesL_ (some 14) rfl rfl Tryz.func32 (by kernel_rfl) rfl #[.int .i64 (a0.size : Int)] rfl aO ?_; (with_reducible refine (disk_Size.calls (a0.size : Int) true _ A2.out).mono ?_); rintro e w21 ⟨rfl, hb⟩; refine ⟨_, rfl, ?_⟩; replace BK253 := bb BK253 hb; replace HB := as_ (below_step bA hb); (try clear hb); (try clear hi)) | ((with_reducible refine gate_callee (f := 78) rfl ?_); refine goesL_ (some 19) rfl rfl Tryz.func78 (by kernel_rfl) rfl #[.string a0, .int .i64 4] rfl aO ?_; (with_reducible refine (word_Read.calls k a0 4 t255 t256 _ A4.out).mono ?_); rintro e w' ⟨rfl, ⟨nd, rfl⟩⟩; refine ⟨_, rfl, ?_⟩; (try (rw [drewN_self w21]; generalize hq_ : World.drewN w21 _ = w21; have n0_ : Aside0 (w21.heap[gb253]? = some (.cells #[.int .i64 0, .int .i64 0, .int .i64 0, .int .i64 0, .int .i64 0] 71 (0, 0))) := ⟨by rw [← hq_]; exact (bk BK253)⟩; have n1_ : Aside0 (Below w.heap.size w w21) := ⟨by rw [← hq_]; exact bA⟩; clear BK253 HB hq_; have BK253 := n0_; have HB := n1_; clear n0_ n1_))) | ((with_reducible refine gate_callee (f := 78) rfl ?_); refine goesL_ (some 24) rfl rfl Tryz.func78 (by kernel_rfl) rfl #[.string a0, .int .i64 8] rfl aO ?_; (with_reducible refine (word_Read.calls k a0 8 t257 t258 _ A5.out).mono ?_); rintro e w' ⟨rfl, ⟨nd, rfl⟩⟩; refine ⟨_, rfl, ?_⟩; (try (rw [drewN_self w21]; generalize hq_ : World.drewN w21 _ = w21; have n0_ : Aside0 (w21.heap[gb253]? = some (.cells #[.int .i64 0, .int .i64 0, .int .i64 0, .int .i64 0, .int .i64 0] 71 (0, 0))) := ⟨by rw [← hq_]; exact (bk BK253)⟩; have n1_ : Aside0 (Below w.heap.size w w21) := ⟨by rw [← hq_]; exact bA⟩; clear BK253 HB hq_; have BK253 := n0_; have HB := n1_; clear n0_ n1_))))
 replace BK253 := as_ (blk_drew BK253.out)
 replace HB := as_ (below_drew1 HB.out)
 have p7 : 0 ≤ (0 : Int) := (by omega)
 have q7 : 0 < a0.size := (by have : (0 : Int) < (a0.size : Int) := of_decide_eq_true aM; omega)
 have hx7 : ∀ h : 0 < a0.size, ((a0[0]'h).toNat : Int) = bt a0 0 := bt_at a0 0
 clear p7
 have qi7 : (0 < (a0.size : Int)) = True := eq_true (of_decide_eq_true aM)
 replace q7 := eq_true q7
 have p9 : 0 ≤ (1 : Int) := (by omega)
 have q9 : 1 < a0.size := (by have : (1 : Int) < (a0.size : Int) := of_decide_eq_true aM; omega)
 have hx9 : ∀ h : 1 < a0.size, ((a0[1]'h).toNat : Int) = bt a0 1 := bt_at a0 1
 clear p9
 have qi9 : (1 < (a0.size : Int)) = True := eq_true (of_decide_eq_true aM)
 replace q9 := eq_true q9
 have p11 : 0 ≤ (2 : Int) := (by omega)
 have q11 : 2 < a0.size := (by have : (2 : Int) < (a0.size : Int) := of_decide_eq_true aM; omega)
 have hx11 : ∀ h : 2 < a0.size, ((a0[2]'h).toNat : Int) = bt a0 2 := bt_at a0 2
 clear p11
 have qi11 : (2 < (a0.size : Int)) = True := eq_true (of_decide_eq_true aM)
 replace q11 := eq_true q11
 have p13 : 0 ≤ (3 : Int) := (by omega)
 have q13 : 3 < a0.size := (by have : (3 : Int) < (a0.size : Int) := of_decide_eq_true aM; omega)
 have hx13 : ∀ h : 3 < a0.size, ((a0[3]'h).toNat : Int) = bt a0 3 := bt_at a0 3
 clear p13
 have qi13 : (3 < (a0.size : Int)) = True := eq_true (of_decide_eq_true aM)
 replace q13 := eq_true q13
 refine start_ (n := 21) (S := fun w' => True) (ds := []) #[ff, ff, ff, ff, ff, ff, ff, ff, ff, ff, ff, ff, ff, ff, ff, ff, ff, ff, ff, ff, ff] (by kernel_rfl) rfl rfl trivial (fun hHeld => ?_); refine with_tabW head_Open.tab5 head_Open.bits5 (fun HT_ HW_ => ?_)
 generalize w21.drew = w22 at BK253 HB hHeld ⊢
 refine pu_ 0 (some 27) (mr [1, 20]) rfl rfl (h := ?_)
 refine pu_ 3 (some 30) (mr [1, 2, 1, 17]) rfl rfl (h := ?_)
 refine pu_ 6 (some 33) (mr [1, 2, 1, 2, 1, 14]) rfl rfl (h := ?_)
 refine pu_ 9 (some 36) (mr [1, 2, 1, 2, 1, 2, 1, 11]) rfl rfl (h := ?_)
 refine pu_ 14 (some 41) (mr [1, 2, 1, 2, 1, 2, 1, 4, 1, 6]) rfl rfl (h := ?_)
 refine pu_ 15 (some 42) (mr [1, 2, 1, 2, 1, 2, 1, 4, 2, 5]) rfl rfl (h := ?_)
 refine pu_ 16 (some 43) (mr [1, 2, 1, 2, 1, 2, 1, 4, 3, 4]) rfl rfl (h := ?_)
 refine pu_ 17 (some 44) (mr [1, 2, 1, 2, 1, 2, 1, 4, 4, 3]) rfl rfl (h := ?_)
 refine take_ (i := 1) (N := some 28) (v := ?_) (a' := ?_) (mr [2, 1, 1, 2, 1, 2, 1, 4, 4, 3]) rfl rfl (take_ofW HT_.out HW_.out (by kernel_rfl)) (fun _ _ _ h => h) (Or.inl ⟨by rfl, ?_⟩) hHeld ?_ ?_
 rotate_left
 ·intro w' _
  go_simp
  with_reducible rfl
 rotate_left
 ·exact aP
 refine pu_ 2 (some 29) (mr [4, 2, 1, 2, 1, 4, 4, 3]) rfl rfl (h := ?_)
 refine take_ (i := 4) (N := some 31) (v := ?_) (a' := ?_) (mr [5, 1, 1, 2, 1, 4, 4, 3]) rfl rfl (take_ofW HT_.out HW_.out (by kernel_rfl)) (fun _ _ _ h => h) (Or.inl ⟨by rfl, ?_⟩) hHeld ?_ ?_
 rotate_left
 ·intro w' _
  go_simp
  with_reducible rfl
 rotate_left
 ·exact aP
 refine pu_ 5 (some 32) (mr [7, 2, 1, 4, 4, 3]) rfl rfl (h := ?_)
 refine take_ (i := 7) (N := some 34) (v := ?_) (a' := ?_) (mr [8, 1, 1, 4, 4, 3]) rfl rfl (take_ofW HT_.out HW_.out (by kernel_rfl)) (fun _ _ _ h => h) (Or.inl ⟨by rfl, ?_⟩) hHeld ?_ ?_
 rotate_left
 ·intro w' _
  go_simp
  with_reducible rfl
 rotate_left
 ·exact aP
 refine pu_ 8 (some 35) (mr [10, 4, 4, 3]) rfl rfl (h := ?_)
 refine take_ (i := 10) (N := some 37) (v := ?_) (a' := ?_) (mr [11, 3, 4, 3]) rfl rfl (take_ofW HT_.out HW_.out (by kernel_rfl)) (fun _ _ _ h => h) (Or.inl ⟨by rfl, ?_⟩) hHeld ?_ ?_
 rotate_left
 ·intro w' _
  go_simp
  with_reducible rfl
 rotate_left
 ·exact aP
 refine pu_ 11 (some 38) (mr [12, 2, 4, 3]) rfl rfl (h := ?_)
 refine pu_ 12 (some 39) (mr [13, 1, 4, 3]) rfl rfl (h := ?_)
 refine pu_ 13 (some 40) (mr [18, 3]) rfl rfl (h := ?_)
 refine pu_ 18 (some 45) (mr [19, 2]) rfl rfl (h := ?_)
 refine one_ (i := 19) (N := some 9) (mr [20, 1]) rfl rfl (one_of HT_.out (by kernel_rfl)) (by decide) (fun K hK => ?_)
 refine box_step (by rfl) (N := 9) (by rfl) (cs := #[.int .i64 0, .int .i64 0, .int .i64 0, .int .i64 0, .int .i64 0]) (t := 71) gS ?_
 intro gb259 hg w23 hbox hb
 have BK259 := as_ (hbox)
 have GW259 := gw hg bA
 have GE259 := gw hg bA
 have NB253_259 := nl BK253 hg
 have NB259_253 := ng BK253 hg
 replace BK253 := bb BK253 hb
 replace HB := as_ (below_step bA hb)
 clear hb hbox hg
 refine hK.out _ _ trivial (fun hHeld => ?_)
 clear hK K
 refine nm_ (some 9) (h := ?_)
 refine one_ (i := 20) (N := none) (mr [21]) rfl rfl (one_of HT_.out (by kernel_rfl)) (by decide) (fun K hK => ?_)
 have hs24 : w23.cell? ⟨gb259, 0, none⟩ = some (.int .i64 0) := (blk_cell BK259.out 0).trans rfl
 have hfs24 := blk_frozen BK259.out 0
 have hns24_0 := NB253_259.out
 have hms24_0 := NB259_253.out
 have hs25 : w23.cell? ⟨gb259, 1, none⟩ = some (.int .i64 0) := (blk_cell BK259.out 1).trans rfl
 have hfs25 := blk_frozen BK259.out 1
 have hns25_0 := NB253_259.out
 have hms25_0 := NB259_253.out
 have hs26 : w23.cell? ⟨gb259, 2, none⟩ = some (.int .i64 0) := (blk_cell BK259.out 2).trans rfl
 have hfs26 := blk_frozen BK259.out 2
 have hns26_0 := NB253_259.out
 have hms26_0 := NB259_253.out
 have hs27 : w23.cell? ⟨gb259, 3, none⟩ = some (.int .i64 0) := (blk_cell BK259.out 3).trans rfl
 have hfs27 := blk_frozen BK259.out 3
 have hns27_0 := NB253_259.out
 have hms27_0 := NB259_253.out
 have hs28 : w23.cell? ⟨gb259, 4, none⟩ = some (.int .i64 0) := (blk_cell BK259.out 4).trans rfl
 have hfs28 := blk_frozen BK259.out 4
 have hns28_0 := NB253_259.out
 have hms28_0 := NB259_253.out
 refine skip_ (w1 := ?_) (by rfl) rfl ?_ ?_
 rotate_left
 ·go_simp
  rfl
 refine hK.out _ _ trivial (fun hHeld => ?_)
 clear hK K
 refine done_ (done_of HT_.out (by kernel_rfl)) ?_
 try go_wp2
 have n0_ : Aside0 ((((((w23.setCell ⟨gb259, 0, none⟩ (.int .i64 (wrap64 (bt a0 0)))).setCell ⟨gb259, 1, none⟩ (.int .i64 (wrap64 (bt a0 1)))).setCell ⟨gb259, 2, none⟩ (.int .i64 (wrap64 ((wrap64 (bt a0 2)) + (wrap64 (256 * (wrap64 (bt a0 3)))))))).setCell ⟨gb259, 3, none⟩ (.int .i64 (wrap64 (t255)))).setCell ⟨gb259, 4, none⟩ (.int .i64 (wrap64 (t257)))).heap[gb253]? = some (.cells #[.int .i64 0, .int .i64 0, .int .i64 0, .int .i64 0, .int .i64 0] 71 (0, 0))) := ⟨by refine bx ?_; refine blk_far ?_ NB253_259.out _; refine bx ?_; refine blk_far ?_ NB253_259.out _; refine bx ?_; refine blk_far ?_ NB253_259.out _; refine bx ?_; refine blk_far ?_ NB253_259.out _; refine bx ?_; refine blk_far ?_ NB253_259.out _; refine bx ?_; exact BK253.out⟩
 have n1_ : Aside0 ((((((w23.setCell ⟨gb259, 0, none⟩ (.int .i64 (wrap64 (bt a0 0)))).setCell ⟨gb259, 1, none⟩ (.int .i64 (wrap64 (bt a0 1)))).setCell ⟨gb259, 2, none⟩ (.int .i64 (wrap64 ((wrap64 (bt a0 2)) + (wrap64 (256 * (wrap64 (bt a0 3)))))))).setCell ⟨gb259, 3, none⟩ (.int .i64 (wrap64 (t255)))).setCell ⟨gb259, 4, none⟩ (.int .i64 (wrap64 (t257)))).heap[gb259]? = some (.cells #[.int .i64 (wrap64 (bt a0 0)), .int .i64 (wrap64 (bt a0 1)), .int .i64 (wrap64 ((wrap64 (bt a0 2)) + (wrap64 (256 * (wrap64 (bt a0 3)))))), .int .i64 (wrap64 (t255)), .int .i64 (wrap64 (t257))] 71 (0, 0))) := ⟨by refine bx ?_; refine blk_put (cs := #[.int .i64 (wrap64 (bt a0 0)), .int .i64 (wrap64 (bt a0 1)), .int .i64 (wrap64 ((wrap64 (bt a0 2)) + (wrap64 (256 * (wrap64 (bt a0 3)))))), .int .i64 (wrap64 (t255)), .int .i64 0]) ?_ 4 _ rfl; refine bx ?_; refine blk_put (cs := #[.int .i64 (wrap64 (bt a0 0)), .int .i64 (wrap64 (bt a0 1)), .int .i64 (wrap64 ((wrap64 (bt a0 2)) + (wrap64 (256 * (wrap64 (bt a0 3)))))), .int .i64 0, .int .i64 0]) ?_ 3 _ rfl; refine bx ?_; refine blk_put (cs := #[.int .i64 (wrap64 (bt a0 0)), .int .i64 (wrap64 (bt a0 1)), .int .i64 0, .int .i64 0, .int .i64 0]) ?_ 2 _ rfl; refine bx ?_; refine blk_put (cs := #[.int .i64 (wrap64 (bt a0 0)), .int .i64 0, .int .i64 0, .int .i64 0, .int .i64 0]) ?_ 1 _ rfl; refine bx ?_; refine blk_put (cs := #[.int .i64 0, .int .i64 0, .int .i64 0, .int .i64 0, .int .i64 0]) ?_ 0 _ rfl; refine bx ?_; exact BK259.out⟩
 have n2_ : Aside0 (Below w.heap.size w (((((w23.setCell ⟨gb259, 0, none⟩ (.int .i64 (wrap64 (bt a0 0)))).setCell ⟨gb259, 1, none⟩ (.int .i64 (wrap64 (bt a0 1)))).setCell ⟨gb259, 2, none⟩ (.int .i64 (wrap64 ((wrap64 (bt a0 2)) + (wrap64 (256 * (wrap64 (bt a0 3)))))))).setCell ⟨gb259, 3, none⟩ (.int .i64 (wrap64 (t255)))).setCell ⟨gb259, 4, none⟩ (.int .i64 (wrap64 (t257))))) := ⟨bA⟩
 (try clear BK253)
 (try clear BK259)
 (try clear HB)
 generalize (((((w23.setCell ⟨gb259, 0, none⟩ (.int .i64 (wrap64 (bt a0 0)))).setCell ⟨gb259, 1, none⟩ (.int .i64 (wrap64 (bt a0 1)))).setCell ⟨gb259, 2, none⟩ (.int .i64 (wrap64 ((wrap64 (bt a0 2)) + (wrap64 (256 * (wrap64 (bt a0 3)))))))).setCell ⟨gb259, 3, none⟩ (.int .i64 (wrap64 (t255)))).setCell ⟨gb259, 4, none⟩ (.int .i64 (wrap64 (t257)))) = w29 at n0_ n1_ n2_ ⊢
 have BK253 := n0_
 have BK259 := n1_
 have HB := n2_
 clear n0_ n1_ n2_
 replace BK253 := as_ (blk_drew BK253.out)
 replace BK259 := as_ (blk_drew BK259.out)
 replace HB := as_ (below_drew1 HB.out)
 refine start_ (n := 11) (S := fun w' => w'.cell? ⟨gb259, 0, none⟩ = some (.int .i64 (wrap64 (bt a0 0))) ∧ w'.cell? ⟨gb259, 1, none⟩ = some (.int .i64 (wrap64 (bt a0 1))) ∧ w'.cell? ⟨gb259, 2, none⟩ = some (.int .i64 (wrap64 ((wrap64 (bt a0 2)) + (wrap64 (256 * (wrap64 (bt a0 3))))))) ∧ w'.cell? ⟨gb259, 3, none⟩ = some (.int .i64 (wrap64 (t255))) ∧ w'.cell? ⟨gb259, 4, none⟩ = some (.int .i64 (wrap64 (t257)))) (ds := []) #[ff, ff, ff, ff, ff, ff, ff, ff, ff, ff, ff] (by kernel_rfl) rfl rfl ⟨(blk_cell BK259.out 0).trans rfl, (blk_cell BK259.out 1).trans rfl, (blk_cell BK259.out 2).trans rfl, (blk_cell BK259.out 3).trans rfl, (blk_cell BK259.out 4).trans rfl⟩ (fun hHeld => ?_); refine with_tabW head_Open.tab6 head_Open.bits6 (fun HT_ HW_ => ?_)
 generalize w29.drew = w30 at BK253 BK259 HB hHeld ⊢
 refine pu_ 1 (some 48) (mr [0, 1, 1, 9]) rfl rfl (h := ?_)
 refine pu_ 2 (some 49) (mr [0, 1, 2, 8]) rfl rfl (h := ?_)
 refine pu_ 3 (some 50) (mr [0, 1, 3, 7]) rfl rfl (h := ?_)
 refine pu_ 4 (some 51) (mr [0, 1, 4, 6]) rfl rfl (h := ?_)
 refine take_ (i := 0) (N := some 47) (v := ?_) (a' := ?_) (mr [5, 6]) rfl rfl (take_ofW HT_.out HW_.out (by kernel_rfl)) (fun _ _ _ h => h) (Or.inl ⟨by rfl, ?_⟩) hHeld ?_ ?_
 rotate_left
 ·rintro w' ⟨s0, s1, s2, s3, s4⟩
  go_simp
  with_reducible rfl
 rotate_left
 ·exact aP
 refine one_ (i := 5) (N := some 52) (mr [6, 5]) rfl rfl (one_of HT_.out (by kernel_rfl)) (by decide) (fun K hK => ?_)
 refine goes_ Tryz.func35 (by kernel_rfl) rfl #[.agg #[.int .i64 (wrap64 (bt a0 0)), .int .i64 (wrap64 (bt a0 1)), .int .i64 (wrap64 ((wrap64 (bt a0 2)) + (wrap64 (256 * (wrap64 (bt a0 3)))))), .int .i64 (wrap64 (t255)), .int .i64 (wrap64 (t257))], .string js15, .int .i64 (a0.size : Int)] (by rfl) rfl rfl aO ?_
 with_reducible refine (head_Seal.calls k (wrap64 (bt a0 0)) (wrap64 (bt a0 1)) (wrap64 ((wrap64 (bt a0 2)) + (wrap64 (256 * (wrap64 (bt a0 3)))))) (wrap64 (t255)) (wrap64 (t257)) js15 (a0.size : Int) t260 t261 _ A16.out).mono ?_
 rintro e w31 ⟨rfl, hb⟩
 refine ⟨_, rfl, ?_⟩
 replace BK253 := bb BK253 hb
 replace BK259 := bb BK259 hb
 replace HB := as_ (below_step bA hb)
 (try clear hb)
 (try clear hb2)
 (try clear hk)
 (try clear hi)
 refine hK.out _ _ ⟨(blk_cell BK259.out 0).trans rfl, (blk_cell BK259.out 1).trans rfl, (blk_cell BK259.out 2).trans rfl, (blk_cell BK259.out 3).trans rfl, (blk_cell BK259.out 4).trans rfl⟩ (fun hHeld => ?_)
 clear hK K
 refine nm_ (some 52) (h := ?_)
 refine pu_ 6 (some 46) (mr [7, 4]) rfl rfl (h := ?_)
 refine pu_ 7 (some 53) (mr [8, 3]) rfl rfl (h := ?_)
 refine pu_ 8 (some 54) (mr [9, 2]) rfl rfl (h := ?_)
 refine pu_ 9 (some 10) (mr [10, 1]) rfl rfl (h := ?_)
 refine pu_ 10 (some 11) (mr [11]) rfl rfl (h := ?_)
 refine done_ (done_of HT_.out (by kernel_rfl)) ?_
 try go_wp2
 replace BK253 := as_ (blk_drew BK253.out)
 replace BK259 := as_ (blk_drew BK259.out)
 replace HB := as_ (below_drew1 HB.out)
 refine start_ (n := 6) (S := fun w' => w'.cell? ⟨gb259, 0, none⟩ = some (.int .i64 (wrap64 (bt a0 0))) ∧ w'.cell? ⟨gb259, 1, none⟩ = some (.int .i64 (wrap64 (bt a0 1))) ∧ w'.cell? ⟨gb259, 2, none⟩ = some (.int .i64 (wrap64 ((wrap64 (bt a0 2)) + (wrap64 (256 * (wrap64 (bt a0 3))))))) ∧ w'.cell? ⟨gb259, 3, none⟩ = some (.int .i64 (wrap64 (t255))) ∧ w'.cell? ⟨gb259, 4, none⟩ = some (.int .i64 (wrap64 (t257)))) (ds := []) #[ff, ff, ff, ff, ff, ff] (by kernel_rfl) rfl rfl ⟨(blk_cell BK259.out 0).trans rfl, (blk_cell BK259.out 1).trans rfl, (blk_cell BK259.out 2).trans rfl, (blk_cell BK259.out 3).trans rfl, (blk_cell BK259.out 4).trans rfl⟩ (fun hHeld => ?_)
 generalize w31.drew = w32 at BK253 BK259 HB hHeld ⊢
 refine pure_ (i := 1) (N := some 64) (v := ?_) (a' := ?_) (mr [0, 1, 1, 4]) rfl rfl (by kernel_rfl) (fun _ _ _ h => h) (Or.inl ⟨by rfl, ?_⟩) ?_ ?_
 rotate_left
 ·intro w'
  go_simp
  with_reducible rfl
 rotate_left
 ·exact aP
 refine pure_ (i := 2) (N := some 65) (v := ?_) (a' := ?_) (mr [0, 1, 2, 3]) rfl rfl (by kernel_rfl) (fun _ _ _ h => h) (Or.inl ⟨by rfl, ?_⟩) ?_ ?_
 rotate_left
 ·intro w'
  go_simp
  with_reducible rfl
 rotate_left
 ·exact aP
 refine take_ (i := 0) (N := some 63) (v := ?_) (a' := ?_) (mr [3, 3]) rfl rfl (by kernel_rfl) (fun _ _ _ h => h) (Or.inl ⟨by rfl, ?_⟩) hHeld ?_ ?_
 rotate_left
 ·rintro w' ⟨s0, s1, s2, s3, s4⟩
  go_simp
  with_reducible rfl
 rotate_left
 ·exact aP
 refine one_ (i := 3) (N := none) (mr [4, 2]) rfl rfl (by kernel_rfl) (by decide) (fun K hK => ?_)
 have hs33 : w32.cell? ⟨gb253, 0, none⟩ = some (.int .i64 0) := (blk_cell BK253.out 0).trans rfl
 have hfs33 := blk_frozen BK253.out 0
 have hns33_1 := NB259_253.out
 have hms33_1 := NB253_259.out
 have hs34 : w32.cell? ⟨gb253, 1, none⟩ = some (.int .i64 0) := (blk_cell BK253.out 1).trans rfl
 have hfs34 := blk_frozen BK253.out 1
 have hns34_1 := NB259_253.out
 have hms34_1 := NB253_259.out
 have hs35 : w32.cell? ⟨gb253, 2, none⟩ = some (.int .i64 0) := (blk_cell BK253.out 2).trans rfl
 have hfs35 := blk_frozen BK253.out 2
 have hns35_1 := NB259_253.out
 have hms35_1 := NB253_259.out
 have hs36 : w32.cell? ⟨gb253, 3, none⟩ = some (.int .i64 0) := (blk_cell BK253.out 3).trans rfl
 have hfs36 := blk_frozen BK253.out 3
 have hns36_1 := NB259_253.out
 have hms36_1 := NB253_259.out
 have hs37 : w32.cell? ⟨gb253, 4, none⟩ = some (.int .i64 0) := (blk_cell BK253.out 4).trans rfl
 have hfs37 := blk_frozen BK253.out 4
 have hns37_1 := NB259_253.out
 have hms37_1 := NB253_259.out
 refine skip_ (w1 := ?_) (by rfl) rfl ?_ ?_
 rotate_left
 ·go_simp
  rfl
 refine hK.out _ _ ⟨((cell_far (p := ⟨gb253, _, none⟩) NB259_253.out _).trans (((cell_far (p := ⟨gb253, _, none⟩) NB259_253.out _).trans (((cell_far (p := ⟨gb253, _, none⟩) NB259_253.out _).trans (((cell_far (p := ⟨gb253, _, none⟩) NB259_253.out _).trans (((cell_far (p := ⟨gb253, _, none⟩) NB259_253.out _).trans (hHeld.1)))))))))), ((cell_far (p := ⟨gb253, _, none⟩) NB259_253.out _).trans (((cell_far (p := ⟨gb253, _, none⟩) NB259_253.out _).trans (((cell_far (p := ⟨gb253, _, none⟩) NB259_253.out _).trans (((cell_far (p := ⟨gb253, _, none⟩) NB259_253.out _).trans (((cell_far (p := ⟨gb253, _, none⟩) NB259_253.out _).trans (hHeld.2.1)))))))))), ((cell_far (p := ⟨gb253, _, none⟩) NB259_253.out _).trans (((cell_far (p := ⟨gb253, _, none⟩) NB259_253.out _).trans (((cell_far (p := ⟨gb253, _, none⟩) NB259_253.out _).trans (((cell_far (p := ⟨gb253, _, none⟩) NB259_253.out _).trans (((cell_far (p := ⟨gb253, _, none⟩) NB259_253.out _).trans (hHeld.2.2.1)))))))))), ((cell_far (p := ⟨gb253, _, none⟩) NB259_253.out _).trans (((cell_far (p := ⟨gb253, _, none⟩) NB259_253.out _).trans (((cell_far (p := ⟨gb253, _, none⟩) NB259_253.out _).trans (((cell_far (p := ⟨gb253, _, none⟩) NB259_253.out _).trans (((cell_far (p := ⟨gb253, _, none⟩) NB259_253.out _).trans (hHeld.2.2.2.1)))))))))), ((cell_far (p := ⟨gb253, _, none⟩) NB259_253.out _).trans (((cell_far (p := ⟨gb253, _, none⟩) NB259_253.out _).trans (((cell_far (p := ⟨gb253, _, none⟩) NB259_253.out _).trans (((cell_far (p := ⟨gb253, _, none⟩) NB259_253.out _).trans (((cell_far (p := ⟨gb253, _, none⟩) NB259_253.out _).trans (hHeld.2.2.2.2))))))))))⟩ (fun hHeld => ?_)
 clear hK K
 refine pure_ (i := 4) (N := some 3) (v := ?_) (a' := ?_) (mr [5, 1]) rfl rfl (by kernel_rfl) (fun _ _ _ h => h) (Or.inl ⟨by rfl, ?_⟩) ?_ ?_
 rotate_left
 ·intro w'
  go_simp
  with_reducible rfl
 rotate_left
 ·exact aP
 refine pure_ (i := 5) (N := some 4) (v := ?_) (a' := ?_) (mr [6]) rfl rfl (by kernel_rfl) (fun _ _ _ h => h) (Or.inl ⟨by rfl, ?_⟩) ?_ ?_
 rotate_left
 ·intro w'
  go_simp
  with_reducible rfl
 rotate_left
 ·exact aP
 refine done_ (by kernel_rfl) ?_
 try go_wp2
 refine bodyPost_ret (results_ctt rfl _ _ gb253 71 #[.int .i64 (wrap64 (bt a0 0)), .int .i64 (wrap64 (bt a0 1)), .int .i64 (wrap64 ((wrap64 (bt a0 2)) + (wrap64 (256 * (wrap64 (bt a0 3)))))), .int .i64 (wrap64 (t255)), .int .i64 (wrap64 (t257))] (0, 0) _ rfl (by refine bx ?_; refine blk_put (cs := #[.int .i64 (wrap64 (bt a0 0)), .int .i64 (wrap64 (bt a0 1)), .int .i64 (wrap64 ((wrap64 (bt a0 2)) + (wrap64 (256 * (wrap64 (bt a0 3)))))), .int .i64 (wrap64 (t255)), .int .i64 0]) ?_ 4 _ rfl; refine bx ?_; refine blk_put (cs := #[.int .i64 (wrap64 (bt a0 0)), .int .i64 (wrap64 (bt a0 1)), .int .i64 (wrap64 ((wrap64 (bt a0 2)) + (wrap64 (256 * (wrap64 (bt a0 3)))))), .int .i64 0, .int .i64 0]) ?_ 3 _ rfl; refine bx ?_; refine blk_put (cs := #[.int .i64 (wrap64 (bt a0 0)), .int .i64 (wrap64 (bt a0 1)), .int .i64 0, .int .i64 0, .int .i64 0]) ?_ 2 _ rfl; refine bx ?_; refine blk_put (cs := #[.int .i64 (wrap64 (bt a0 0)), .int .i64 0, .int .i64 0, .int .i64 0, .int .i64 0]) ?_ 1 _ rfl; refine bx ?_; refine blk_put (cs := #[.int .i64 0, .int .i64 0, .int .i64 0, .int .i64 0, .int .i64 0]) ?_ 0 _ rfl; refine bx ?_; exact BK253.out) Tryz.underlying71 rfl (by kernel_rfl)) rfl ?_
 exact ⟨by first | rfl | (simp [errW_none, errW_some] <;> rfl) | (simp only [← hjs15]; first | rfl | (simp [errW_none, errW_some] <;> rfl)) | (simp [*, errW_none, errW_some] <;> rfl), bA⟩
/-! ### word_more: function 106 -/
def word_more.f (a0 : Int) : Option (Int) := if a0 > 249 then (some (wrap64 ((wrap64 (a0)) - 247))) else (if a0 = 249 then (some ((0 + 1) + 1)) else (if a0 ≥ 241 then (some (0 + 1)) else (some 0)))
set_option maxHeartbeats 8000000 in
set_option maxRecDepth 100000 in
theorem word_more.calls (a0 : Int) (r : Int) (w : World) (h : word_more.f a0 = some r) :
  Calls Tryz.prog 106 #[.int .u8 a0] w fun e w' => e = .returned (.int .i64 r) ∧ Drawn0 w w' := by
 have H : (if a0 > 249 then (some (wrap64 ((wrap64 (a0)) - 247))) else (if a0 = 249 then (some ((0 + 1) + 1)) else (if a0 ≥ 241 then (some (0 + 1)) else (some 0)))) = some r := h
 clear h
 by_cases c2 : a0 > 249
 ·rw [if_pos c2] at H
  have c2b0 : decide (249 < a0) = true := decide_eq_true c2
  clear c2
  obtain rfl := Option.some.inj H
  go_enter Tryz.func106, Tryz.ntmps106
  go_wp2
  go_ret
  exact ⟨by first | rfl | (simp; done) | (simp [*]; done), by repeat (first | exact Drawn0.refl _ | apply Drawn0.step)⟩
 rw [if_neg c2] at H
 have c2b0 : decide (249 < a0) = false := decide_eq_false c2
 clear c2
 by_cases c3 : a0 = 249
 ·rw [if_pos c3] at H
  have c3b0 := beq_iff_eq.mpr c3
  have c3b1 := bne_eq_false_iff_eq.mpr c3
  clear c3
  obtain rfl := Option.some.inj H
  go_enter Tryz.func106, Tryz.ntmps106
  go_wp2
  go_ret
  exact ⟨by first | rfl | (simp; done) | (simp [*]; done), by repeat (first | exact Drawn0.refl _ | apply Drawn0.step)⟩
 rw [if_neg c3] at H
 have c3b0 := beq_eq_false_iff_ne.mpr c3
 have c3b1 := bne_iff_ne.mpr c3
 by_cases c4 : a0 ≥ 241
 ·rw [if_pos c4] at H
  have c4b0 : decide (241 ≤ a0) = true := decide_eq_true c4
  clear c4
  obtain rfl := Option.some.inj H
  go_enter Tryz.func106, Tryz.ntmps106
  go_wp2
  go_ret
  exact ⟨by first | rfl | (simp; done) | (simp [*]; done), by repeat (first | exact Drawn0.refl _ | apply Drawn0.step)⟩
 rw [if_neg c4] at H
 have c4b0 : decide (241 ≤ a0) = false := decide_eq_false c4
 clear c4
 obtain rfl := Option.some.inj H
 go_enter Tryz.func106, Tryz.ntmps106
 go_wp2
 go_ret
 exact ⟨by first | rfl | (simp; done) | (simp [*]; done), by repeat (first | exact Drawn0.refl _ | apply Drawn0.step)⟩

end Go.Proofs.YtafebmhmcdnhkaaGreat.P
