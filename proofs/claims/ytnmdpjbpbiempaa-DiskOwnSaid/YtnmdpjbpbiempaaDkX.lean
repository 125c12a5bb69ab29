/- What is proved here: what the document's fixed calls answer. Conditions: none. -/
import Derived.Test.YtnmdpjbpbiempaaDkS
set_option linter.unusedVariables false
set_option linter.unusedSimpArgs false
namespace Go.Proofs.Ytnmdpjbpbiempaa.P
open Go.RowKit Go.Proofs.YtnmdpjbpbiempaaW.PrintWords Go.Proofs.YtnmdpjbpbiempaaW.PrintLast Go.Proofs.YtnmdpjbpbiempaaW.PrintMore
/-- A page of bytes 1, and a byte more. -/
def pageX : ByteArray := pageB 1 ++ ⟨#[120]⟩
theorem fx100 : fromE 100 3 ⟨#[]⟩ = 4 := by decide +kernel
theorem fx0 : fromE 128 0 ⟨#[]⟩ = 4 := by decide +kernel
theorem fx100' : fromE 100 3 ⟨#[]⟩ ≠ 0 := by rw [fx100]; decide
theorem fx0' : fromE 128 0 ⟨#[]⟩ ≠ 0 := by rw [fx0]; decide
theorem fxOk : fromE 128 3 ⟨#[]⟩ = 0 := by decide +kernel
theorem fxF : fromE 128 1 pageX = 2 := by decide +kernel
theorem fxF' : fromE 128 1 pageX ≠ 0 := by rw [fxF]; decide
theorem fxP : fromE 128 2 pageX = 0 := by decide +kernel
def pageX' (pb : Int → ByteArray) : ByteArray := pb 1 ++ ⟨#[120]⟩
theorem new3 (w : World) : Calls Try.prog 23 #[.int .i64 128, .int .i64 3] w fun e w' => ∃ g, w.heap.size ≤ g ∧ e = .returned (.tuple #[.pointer (some ⟨g, 0, none⟩), .int .i64 0]) ∧ DkAt w' g none (fromD 128 3 ⟨#[]⟩ (fun _ => True)) ∧ Below w.heap.size w w' := dk_New w 128 3 (fun _ => True) (fun _ _ => trivial) fxOk
theorem new100 (w : World) : Calls Try.prog 23 #[.int .i64 100, .int .i64 3] w fun e w' => e = .returned (.tuple #[.pointer none, .int .i64 4]) ∧ Below w.heap.size w w' := by
  have h := dk_New_err w 100 3 fx100'
  rw [fx100] at h
  exact h
theorem new0 (w : World) : Calls Try.prog 23 #[.int .i64 128, .int .i64 0] w fun e w' => e = .returned (.tuple #[.pointer none, .int .i64 4]) ∧ Below w.heap.size w w' := by
  have h := dk_New_err w 128 0 fx0'
  rw [fx0] at h
  exact h
theorem from1 (w : World) : Calls Try.prog 9 #[.int .i64 128, .int .i64 1, .string pageX] w fun e w' => e = .returned (.tuple #[.pointer none, .int .i64 2]) ∧ Below w.heap.size w w' := by
  have h := dk_From_err w 128 1 pageX fxF'
  rw [fxF] at h
  exact h
theorem from2 (g1 : Nat) (w : World) (hg : g1 < w.heap.size) : Calls Try.prog 9 #[.int .i64 128, .int .i64 2, .string pageX] w fun e w' => ∃ g, w.heap.size ≤ g ∧ e = .returned (.tuple #[.pointer (some ⟨g, 0, none⟩), .int .i64 0]) ∧ DkAt w' g none (fromD 128 2 pageX (fun k => k ≠ g1)) ∧ Below w.heap.size w w' := dk_From w 128 2 pageX (fun k => k ≠ g1) (fun k hk => by omega) fxP
theorem sz512 : disk_Size.f 512 = some true := by kernel_rfl
theorem sz2048 : disk_Size.f 2048 = some false := by kernel_rfl
structure FX (pb : Int → ByteArray) (px tx bt y0 y97 : ByteArray) (s : Nat → (Nat → Prop) → Dk) (di : Nat → Dk) : Prop where
  PX : ∀ (c : Int) (w : World), Calls Try.prog 24 #[.int .u8 c] w fun e w' => e = .returned (.string (pb c)) ∧ Below w.heap.size w w'
  N3 : ∀ (w : World), Calls Try.prog 23 #[.int .i64 128, .int .i64 3] w fun e w' => ∃ g, w.heap.size ≤ g ∧ e = .returned (.tuple #[.pointer (some ⟨g, 0, none⟩), .int .i64 0]) ∧ DkAt w' g none (s 0 (fun _ => True)) ∧ Below w.heap.size w w'
  F1 : ∀ (w : World), Calls Try.prog 9 #[.int .i64 128, .int .i64 1, .string px] w fun e w' => e = .returned (.tuple #[.pointer none, .int .i64 2]) ∧ Below w.heap.size w w'
  F2 : ∀ (g1 : Nat) (w : World), g1 < w.heap.size → Calls Try.prog 9 #[.int .i64 128, .int .i64 2, .string px] w fun e w' => ∃ g, w.heap.size ≤ g ∧ e = .returned (.tuple #[.pointer (some ⟨g, 0, none⟩), .int .i64 0]) ∧ DkAt w' g none (di g1) ∧ Below w.heap.size w w'
  ps : ∀ c, (pb c).size = 128
  hpx : pb 1 ++ ⟨#[120]⟩ = px
  M : ∀ M M', { s 0 M with M := M' } = s 0 M'
  few : ∀ i M, (s i M).Few
  W1 : ∀ M, (s 0 M).write 0 (pb 97) = s 1 M
  W2 : ∀ M, (s 1 M).sync = s 2 M
  W3 : ∀ M, (s 2 M).write 0 (pb 98) = s 3 M
  W4 : ∀ M, (s 3 M).write 2 (pb 99) = s 4 M
  W5 : ∀ M, (s 4 M).write 3 (pb 99) = s 5 M
  W6 : ∀ M, (s 5 M).write 0 ⟨#[120]⟩ = s 6 M
  W7 : ∀ M, (s 6 M).readD = s 7 M
  W8 : ∀ M, (s 7 M).crash [⟨2, 3⟩] = s 8 M
  W9 : ∀ M, (s 8 M).readD = s 9 M
  W10 : ∀ M, (s 9 M).readD = s 10 M
  W11 : ∀ M, (s 10 M).limit 1 = s 11 M
  W12 : ∀ M, (s 11 M).sync = s 12 M
  W13 : ∀ M, (s 12 M).write 0 (pb 122) = s 13 M
  E1 : ∀ M, (s 0 M).writeE 0 (pb 97) = 0
  E2 : ∀ M, (if (s 1 M).left = 0 then 9 else 0) = (0 : Int)
  E3 : ∀ M, (s 2 M).writeE 0 (pb 98) = 0
  E4 : ∀ M, (s 3 M).writeE 2 (pb 99) = 0
  E5 : ∀ M, (s 4 M).writeE 3 (pb 99) = 2
  E6 : ∀ M, (s 5 M).writeE 0 ⟨#[120]⟩ = 4
  E7 : ∀ M, (s 6 M).read 1 = (pb 0, 0)
  L7 : ∀ M, ((s 7 M).now.length : Int) = 3
  ok7 : ∀ M, (s 7 M).Ok
  E8 : ∀ M, (s 8 M).read 0 = (bt, 0)
  E9 : ∀ M, (s 9 M).read 2 = (⟨#[]⟩, 4)
  E11 : ∀ M, (if (s 11 M).left = 0 then 9 else 0) = (0 : Int)
  E12 : ∀ M, (s 12 M).writeE 0 (pb 122) = 9
  L13 : ∀ M, ((s 13 M).now.length : Int) = 1
  R13 : ∀ M, (s 13 M).reads = 3
  P13 : ∀ M, (s 13 M).p = 128
  O13 : ∀ M, (s 13 M).room = 3
  hy0 : (pb 0).extract 1 128 = y0
  y0s : y0.size = 127
  hy97 : (pb 97).extract 3 128 = y97
  y97s : y97.size = 125
  hbt : ⟨#[98, 98, 98]⟩ ++ y97 = bt
  htx : ⟨#[120]⟩ ++ y0 = tx
  DM : ∀ g1 k, (di g1).M k → k ≠ g1
  DN : ∀ g1, (di g1).now = [pb 1, tx]
  DL : ∀ g1, ((di g1).now.length : Int) = 2
set_option maxHeartbeats 2000000 in
set_option maxRecDepth 100000 in
theorem fixed_walk (w : World) (pb : Int → ByteArray) (px tx bt y0 y97 : ByteArray) (s : Nat → (Nat → Prop) → Dk) (di : Nat → Dk) (F : FX pb px tx bt y0 y97 s di) : Calls Try.prog 13 #[] w fun e w' => e = .returned (.bool true) ∧ Below w.heap.size w w' := by
  have HB := Aside0.mk (Below.refl w.heap.size w)
  have hps : (9223372036854775807 < (pb 1).size + 1) = False := eq_false (by rw [F.ps]; decide)
  have hpx : pb 1 ++ ⟨#[120]⟩ = px := F.hpx
  have HF := Aside0.mk F
  clear F
  go_enter Try.func13, Try.ntmps13
  (try simp only [List.append_eq, List.cons_append, List.nil_append])
  go_wp2_with (first
    | (go_at_call 23; with_reducible refine (HF.out.N3 _).mono ?_; rintro e w1 ⟨g1, hg1, rfl, hd, b1⟩; have HD := Aside0.mk hd; have HG1 := Aside0.mk (show w.heap.size ≤ g1 from Nat.le_trans (below_size (show Below w.heap.size w _ from by repeat (first | exact HB.out | apply below_alloc | apply pw_below_drewN | apply below_drew1))) hg1); have n1_ := Aside0.mk (below_step (by repeat (first | exact HB.out | apply below_alloc | apply pw_below_drewN | apply below_drew1)) b1); clear HB b1 hd hg1; have HB := n1_; clear n1_)
    | (go_at_call 23; (first | with_reducible refine (new100 _).mono ?_ | with_reducible refine (new0 _).mono ?_); rintro e w1 ⟨rfl, b1⟩; have n0_ := Aside0.mk (DkAt.below (by repeat (first | exact HD.out | apply DkAt.alloc | apply DkAt.drewN | apply DkAt.drew)) b1); have n1_ := Aside0.mk (below_step (by repeat (first | exact HB.out | apply below_alloc | apply pw_below_drewN | apply below_drew1)) b1); clear HB HD b1; have HB := n1_; have HD := n0_; clear n1_ n0_)
    | (go_at_call 24; with_reducible refine (HF.out.PX _ _).mono ?_; rintro e w1 ⟨rfl, b1⟩; have n0_ := Aside0.mk (DkAt.below (by repeat (first | exact HD.out | apply DkAt.alloc | apply DkAt.drewN | apply DkAt.drew)) b1); have n1_ := Aside0.mk (below_step (by repeat (first | exact HB.out | apply below_alloc | apply pw_below_drewN | apply below_drew1)) b1); clear HB HD b1; have HB := n1_; have HD := n0_; clear n1_ n0_)
    | (go_at_call 9; with_reducible refine (HF.out.F1 _).mono ?_; rintro e w1 ⟨rfl, b1⟩; have n0_ := Aside0.mk (DkAt.below (by repeat (first | exact HD.out | apply DkAt.alloc | apply DkAt.drewN | apply DkAt.drew)) b1); have n1_ := Aside0.mk (below_step (by repeat (first | exact HB.out | apply below_alloc | apply pw_below_drewN | apply below_drew1)) b1); clear HB HD b1; have HB := n1_; have HD := n0_; clear n1_ n0_)
    | (go_at_call 9; with_reducible refine (HF.out.F2 g1 _ (DkAt.lt (show DkAt _ g1 none _ from by repeat (first | exact HD.out | apply DkAt.alloc | apply DkAt.drewN | apply DkAt.drew)))).mono ?_; rintro e w5 ⟨g2, hg2, rfl, hd2, b1⟩; have HD2 := Aside0.mk hd2; have HG2 := Aside0.mk (show g1 < g2 from Nat.lt_of_lt_of_le (DkAt.lt (show DkAt _ g1 none (s 0 (fun _ => True)) from by repeat (first | exact HD.out | apply DkAt.alloc | apply DkAt.drewN | apply DkAt.drew))) hg2); have HS := Aside0.mk (St.init (DkAt.later (show DkAt _ g1 none (s 0 (fun _ => True)) from by repeat (first | exact HD.out | apply DkAt.alloc | apply DkAt.drewN | apply DkAt.drew)) b1 (fun k => k ≠ g2) (fun k hk => by omega) (fun k hk => by have := DkAt.lt hd2; omega))); have n1_ := Aside0.mk (below_step (by repeat (first | exact HB.out | apply below_alloc | apply pw_below_drewN | apply below_drew1)) b1); clear HB HD b1 hd2 hg2; have HB := n1_; clear n1_))
  obtain ⟨mm, hmm⟩ : ∃ mm : Nat → Prop, mm = (fun k => k ≠ g2) := ⟨_, rfl⟩
  have HS1 : Aside0 (St w5 w5 g1 none (s 0 mm)) := by rw [hmm, ← HF.out.M (fun _ => True)]; exact HS
  have HM := Aside0.mk hmm
  clear HS hmm hps hpx
  have HS := HS1
  clear HS1
  have hs0 := HF.out.ps 0
  have hs97 := HF.out.ps 97
  have hy0 := HF.out.hy0
  have hy97 := HF.out.hy97
  have hbt := HF.out.hbt
  have htx := HF.out.htx
  have y0s := HF.out.y0s
  have y97s := HF.out.y97s
  refine (HF.out.PX _ _).mono ?_
  rintro e w1 ⟨rfl, b1⟩
  have n0_ := Aside0.mk (St.below (show St w5 _ g1 _ _ from by repeat (first | exact HS.out | apply St.alloc | apply St.drewN | apply St.drew)) b1); clear HS b1; have HS := n0_; clear n0_
  go_wp2_with (first
    | (go_at_call 24; with_reducible refine (HF.out.PX _ _).mono ?_; rintro e w1 ⟨rfl, b1⟩; have n0_ := Aside0.mk (St.below (show St w5 _ g1 _ _ from by repeat (first | exact HS.out | apply St.alloc | apply St.drewN | apply St.drew)) b1); (try (have n1_ := Aside0.mk (Kd.R_below (by repeat (first | exact HA.out | apply Kd.R_alloc | apply Kd.R_drewN | apply Kd.R_drew)) b1); clear HA; have HA := n1_; clear n1_)); clear HS b1; have HS := n0_; clear n0_)
    | (go_at_call 25; (first | with_reducible refine Calls.mono (st_Write' (show St w5 _ g1 _ (s 0 mm) from by repeat (first | exact HS.out | apply St.alloc | apply St.drewN | apply St.drew)) _ _ (HF.out.few _ _) (HF.out.E1 _) (HF.out.W1 _)) ?_ | with_reducible refine Calls.mono (st_Write' (show St w5 _ g1 _ (s 2 mm) from by repeat (first | exact HS.out | apply St.alloc | apply St.drewN | apply St.drew)) _ _ (HF.out.few _ _) (HF.out.E3 _) (HF.out.W3 _)) ?_ | with_reducible refine Calls.mono (st_Write' (show St w5 _ g1 _ (s 3 mm) from by repeat (first | exact HS.out | apply St.alloc | apply St.drewN | apply St.drew)) _ _ (HF.out.few _ _) (HF.out.E4 _) (HF.out.W4 _)) ?_ | with_reducible refine Calls.mono (st_Write' (show St w5 _ g1 _ (s 4 mm) from by repeat (first | exact HS.out | apply St.alloc | apply St.drewN | apply St.drew)) _ _ (HF.out.few _ _) (HF.out.E5 _) (HF.out.W5 _)) ?_ | with_reducible refine Calls.mono (st_Write' (show St w5 _ g1 _ (s 5 mm) from by repeat (first | exact HS.out | apply St.alloc | apply St.drewN | apply St.drew)) _ _ (HF.out.few _ _) (HF.out.E6 _) (HF.out.W6 _)) ?_ | with_reducible refine Calls.mono (st_Write' (show St w5 _ g1 _ (s 12 mm) from by repeat (first | exact HS.out | apply St.alloc | apply St.drewN | apply St.drew)) _ _ (HF.out.few _ _) (HF.out.E12 _) (HF.out.W13 _)) ?_); rintro e w1 ⟨rfl, own1, h1, -⟩; clear HS; have HS := Aside0.mk h1; clear h1)
    | (go_at_call 26; (first | with_reducible refine Calls.mono (st_Sync' (show St w5 _ g1 _ (s 1 mm) from by repeat (first | exact HS.out | apply St.alloc | apply St.drewN | apply St.drew)) (HF.out.E2 _) (HF.out.W2 _)) ?_ | with_reducible refine Calls.mono (st_Sync' (show St w5 _ g1 _ (s 11 mm) from by repeat (first | exact HS.out | apply St.alloc | apply St.drewN | apply St.drew)) (HF.out.E11 _) (HF.out.W12 _)) ?_); rintro e w1 ⟨rfl, own1, h1, -⟩; clear HS; have HS := Aside0.mk h1; clear h1)
    | (go_at_call 29; (first | with_reducible refine Calls.mono (st_Read' (show St w5 _ g1 _ (s 6 mm) from by repeat (first | exact HS.out | apply St.alloc | apply St.drewN | apply St.drew)) _ (HF.out.E7 _) (HF.out.W7 _)) ?_ | with_reducible refine Calls.mono (st_Read' (show St w5 _ g1 _ (s 8 mm) from by repeat (first | exact HS.out | apply St.alloc | apply St.drewN | apply St.drew)) _ (HF.out.E8 _) (HF.out.W9 _)) ?_ | with_reducible refine Calls.mono (st_Read' (show St w5 _ g1 _ (s 9 mm) from by repeat (first | exact HS.out | apply St.alloc | apply St.drewN | apply St.drew)) _ (HF.out.E9 _) (HF.out.W10 _)) ?_); rintro e w1 ⟨rfl, h1, -⟩; clear HS; have HS := Aside0.mk h1; clear h1)
    | (go_at_call 28; with_reducible refine Calls.mono (st_Limit' (show St w5 _ g1 _ (s 10 mm) from by repeat (first | exact HS.out | apply St.alloc | apply St.drewN | apply St.drew)) _ (HF.out.W11 _)) ?_; rintro e w1 ⟨rfl, h1, -⟩; clear HS; have HS := Aside0.mk h1; clear h1)
    | (go_at_call 15; (first | with_reducible refine Calls.mono (st_Len' (show St w5 _ g1 _ (s 7 mm) from by repeat (first | exact HS.out | apply St.alloc | apply St.drewN | apply St.drew)) (HF.out.L7 _)) ?_ | with_reducible refine Calls.mono (st_Len' (show St w5 _ g1 _ (s 13 mm) from by repeat (first | exact HS.out | apply St.alloc | apply St.drewN | apply St.drew)) (HF.out.L13 _)) ?_ | with_reducible refine Calls.mono (st_Len' (St.init (St.other (show St w5 _ g1 _ (s 13 mm) from by repeat (first | exact HS.out | apply St.alloc | apply St.drewN | apply St.drew)) HD2.out (Nat.ne_of_gt HG2.out) (HF.out.DM g1))) (HF.out.DL _)) ?_); rintro e w1 ⟨rfl, b1⟩; have n0_ := Aside0.mk (St.below (show St w5 _ g1 _ _ from by repeat (first | exact HS.out | apply St.alloc | apply St.drewN | apply St.drew)) b1); (try (have n1_ := Aside0.mk (Kd.R_below (by repeat (first | exact HA.out | apply Kd.R_alloc | apply Kd.R_drewN | apply Kd.R_drew)) b1); clear HA; have HA := n1_; clear n1_)); clear HS b1; have HS := n0_; clear n0_)
    | ((with_reducible refine gate_dst (N := 89) rfl ?_); refine Kd.R_lit kCh _ 54 ?hg (N := 89) ?hd (xs := [(⟨2, 3⟩ : Ch)]) (inner := [.int .i64 2, .int .i64 3]) (ok := fun _ => True) (okp := fun _ => True) ?hr ?hp (fun _ hk => hk) trivial (Below.refl _ _) (Nat.le_refl _) (by simp) ?_; (case hd => rfl); (case hg => rfl); (case hr => first | (go_simp; done) | (go_simp; rfl)); (case hp => exact Reps.c2 (show Kd.M kCh _ _ _ (⟨2, 3⟩ : Ch) [.int .i64 2, .int .i64 3] from kCh_mkM _ _ _ _) (Reps.none _ _)); intro v89 w89 ho b1 hg_ hnew_; clear hg_ hnew_; have HGL := Aside0.mk (DkAt.lt (show DkAt _ g1 _ _ from (show St w5 _ g1 _ _ from by repeat (first | exact HS.out | apply St.alloc | apply St.drewN | apply St.drew)).dk)); have n0_ := Aside0.mk (St.below (show St w5 _ g1 _ _ from by repeat (first | exact HS.out | apply St.alloc | apply St.drewN | apply St.drew)) b1); (try (have n1_ := Aside0.mk (Kd.R_below (by repeat (first | exact HA.out | apply Kd.R_alloc | apply Kd.R_drewN | apply Kd.R_drew)) b1); clear HA; have HA := n1_; clear n1_)); clear HS b1; have HS := n0_; clear n0_; have HL := Aside0.mk ho; clear ho)
    | (go_at_call 27; with_reducible refine Calls.mono (st_Crash' (show St w5 _ g1 _ (s 7 mm) from by repeat (first | exact HS.out | apply St.alloc | apply St.drewN | apply St.drew)) (HF.out.ok7 _) HL.out HGL.out (by simp) (HF.out.W8 _)) ?_; rintro e w1 ⟨rfl, h1, -⟩; clear HS HL HGL; have HS := Aside0.mk h1; clear h1)
    | (go_at_call 19; with_reducible refine Calls.mono (st_All' (St.init (St.other (show St w5 _ g1 _ (s 13 mm) from by repeat (first | exact HS.out | apply St.alloc | apply St.drewN | apply St.drew)) HD2.out (Nat.ne_of_gt HG2.out) (HF.out.DM g1))) (by rw [HF.out.DN]; simp) (HF.out.DN _)) ?_; rintro e w1 ⟨va, rfl, ra, b1⟩; have n0_ := Aside0.mk (St.below (show St w5 _ g1 _ _ from by repeat (first | exact HS.out | apply St.alloc | apply St.drewN | apply St.drew)) b1); clear HS b1; have HS := n0_; clear n0_; have HA := Aside0.mk ra; clear ra)
    | (go_at_call 18; with_reducible refine Calls.mono (words_R (show Kd.R Kd.string 9 _ _ (fun _ => True) va [pb 1, tx] from by repeat (first | exact HA.out | apply Kd.R_alloc | apply Kd.R_drewN | apply Kd.R_drew)) (lit2 _ _ _) (by simp)) ?_; rintro e w1 ⟨rfl, b1⟩; clear HA; have n0_ := Aside0.mk (St.below (show St w5 _ g1 _ _ from by repeat (first | exact HS.out | apply St.alloc | apply St.drewN | apply St.drew)) b1); (try (have n1_ := Aside0.mk (Kd.R_below (by repeat (first | exact HA.out | apply Kd.R_alloc | apply Kd.R_drewN | apply Kd.R_drew)) b1); clear HA; have HA := n1_; clear n1_)); clear HS b1; have HS := n0_; clear n0_)
    | (go_at_call 17; with_reducible refine Calls.mono (st_Reads' (show St w5 _ g1 _ (s 13 mm) from by repeat (first | exact HS.out | apply St.alloc | apply St.drewN | apply St.drew)) (HF.out.R13 _)) ?_; rintro e w1 ⟨rfl, b1⟩; have n0_ := Aside0.mk (St.below (show St w5 _ g1 _ _ from by repeat (first | exact HS.out | apply St.alloc | apply St.drewN | apply St.drew)) b1); (try (have n1_ := Aside0.mk (Kd.R_below (by repeat (first | exact HA.out | apply Kd.R_alloc | apply Kd.R_drewN | apply Kd.R_drew)) b1); clear HA; have HA := n1_; clear n1_)); clear HS b1; have HS := n0_; clear n0_)
    | (go_at_call 21; with_reducible refine Calls.mono (st_Page' (show St w5 _ g1 _ (s 13 mm) from by repeat (first | exact HS.out | apply St.alloc | apply St.drewN | apply St.drew)) (HF.out.P13 _)) ?_; rintro e w1 ⟨rfl, b1⟩; have n0_ := Aside0.mk (St.below (show St w5 _ g1 _ _ from by repeat (first | exact HS.out | apply St.alloc | apply St.drewN | apply St.drew)) b1); (try (have n1_ := Aside0.mk (Kd.R_below (by repeat (first | exact HA.out | apply Kd.R_alloc | apply Kd.R_drewN | apply Kd.R_drew)) b1); clear HA; have HA := n1_; clear n1_)); clear HS b1; have HS := n0_; clear n0_)
    | (go_at_call 22; with_reducible refine Calls.mono (st_Room' (show St w5 _ g1 _ (s 13 mm) from by repeat (first | exact HS.out | apply St.alloc | apply St.drewN | apply St.drew)) (HF.out.O13 _)) ?_; rintro e w1 ⟨rfl, b1⟩; have n0_ := Aside0.mk (St.below (show St w5 _ g1 _ _ from by repeat (first | exact HS.out | apply St.alloc | apply St.drewN | apply St.drew)) b1); (try (have n1_ := Aside0.mk (Kd.R_below (by repeat (first | exact HA.out | apply Kd.R_alloc | apply Kd.R_drewN | apply Kd.R_drew)) b1); clear HA; have HA := n1_; clear n1_)); clear HS b1; have HS := n0_; clear n0_)
    | (go_at_call 11; (first | with_reducible refine Calls.mono (disk_Size.calls 512 true _ sz512) ?_ | with_reducible refine Calls.mono (disk_Size.calls 2048 false _ sz2048) ?_); rintro e w1 ⟨rfl, b1⟩; have n0_ := Aside0.mk (St.below (show St w5 _ g1 _ _ from by repeat (first | exact HS.out | apply St.alloc | apply St.drewN | apply St.drew)) b1); (try (have n1_ := Aside0.mk (Kd.R_below (by repeat (first | exact HA.out | apply Kd.R_alloc | apply Kd.R_drewN | apply Kd.R_drew)) b1); clear HA; have HA := n1_; clear n1_)); clear HS b1; have HS := n0_; clear n0_))
  go_ret
  exact ⟨by first | rfl | (simp; done), St.old (show St w5 _ g1 _ (s 13 mm) from by repeat (first | exact HS.out | apply St.alloc | apply St.drewN | apply St.drew)) HB.out HG1.out⟩
end Go.Proofs.Ytnmdpjbpbiempaa.P
