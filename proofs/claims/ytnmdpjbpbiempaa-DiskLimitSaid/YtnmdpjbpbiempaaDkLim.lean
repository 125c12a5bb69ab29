/- What is proved here: what the law DiskLimit answers, by its walk. Conditions: as the theorem names them. -/
import Derived.Test.YtnmdpjbpbiempaaDkL2
set_option linter.unusedVariables false
set_option linter.unusedSimpArgs false
namespace Go.Proofs.Ytnmdpjbpbiempaa.P
open Go.RowKit Go.Proofs.YtnmdpjbpbiempaaW.PrintWords Go.Proofs.YtnmdpjbpbiempaaW.PrintLast Go.Proofs.YtnmdpjbpbiempaaW.PrintMore
theorem new4 (w : World) : Calls Try.prog 23 #[.int .i64 128, .int .i64 4] w fun e w' => ∃ g, w.heap.size ≤ g ∧ e = .returned (.tuple #[.pointer (some ⟨g, 0, none⟩), .int .i64 0]) ∧ DkAt w' g none (fromD 128 4 ⟨#[]⟩ (fun _ => True)) ∧ Below w.heap.size w w' := dk_New w 128 4 (fun _ => True) (fun _ _ => trivial) (by decide +kernel)
set_option maxHeartbeats 2000000 in
set_option maxRecDepth 100000 in
theorem limit_walk (fixedC : ∀ w, Calls Try.prog 13 #[] w fun e w' => e = .returned (.bool true) ∧ Below w.heap.size w w') (w : World) (n0 : Int) (A0 : Option Addr) (c0 : Nat) (l0 : List Wr) (hn0 : 0 ≤ n0 ∧ n0 < 256) (hr0 : Kd.C kWr w A0 l0.length l0) (hc0 : l0.length ≤ c0) (hf : ∀ x ∈ l0, WrOk x) (hl0 : l0.length < 9223372036854775807) :
    Calls Try.prog 6 #[.int .u8 n0, .slice A0 l0.length c0] w fun e w' => e = .returned (.bool true) ∧ Below w.heap.size w w' := by
  have HR0 := Aside0.mk hr0
  have HC := Aside0.mk (show l0.length ≤ c0 ∧ l0.length < 9223372036854775807 from ⟨hc0, hl0⟩)
  have HF := Aside0.mk hf
  have FC := Aside0.mk fixedC
  obtain ⟨wn, ln0, ln1⟩ := im8 12 hn0 (by decide)
  obtain ⟨lm, hlm⟩ : ∃ lm, n0.tmod 12 = lm := ⟨_, rfl⟩
  rw [hlm] at ln0 ln1
  have HLM := Aside0.mk (show 0 ≤ lm ∧ lm < 12 from ⟨ln0, ln1⟩)
  clear hr0 hc0 hl0 hf fixedC hn0 ln0 ln1
  go_enter Try.func6, Try.ntmps6
  go_wp2_with (first
    | (go_at_call 23; with_reducible refine Calls.mono (new4 _) ?_; rintro e w1 ⟨g, hg, rfl, hd, b1⟩; have HG := Aside0.mk (show w.heap.size ≤ g by simpa using hg); have HB := Aside0.mk (show Below w.heap.size w w1 from below_step (by repeat (first | exact Below.refl _ _ | apply pw_below_drewN | apply below_drew1)) b1); have HS := Aside0.mk (St.init hd); clear hd hg b1)
    | (go_at_call 28; with_reducible refine Calls.mono (st_Limit (show St w1 _ g none _ from by repeat (first | exact HS.out | apply St.alloc | apply St.drewN | apply St.drew)) lm) ?_; rintro e w2 ⟨rfl, h1, -⟩; clear HS; have HS := Aside0.mk h1; clear h1))
  obtain ⟨N, hN⟩ : ∃ N : Nat, N = min l0.length 30 := ⟨_, rfl⟩
  have HN := Aside0.mk hN
  clear hN wn hlm
  have HI := Aside0.mk (InvL.init (fun _ => True) lm HLM.out.1)
  go_loopg [7, 8] (N + 1) (fun kq v7 v8 w' => ∃ (j : Nat) (left : Int) (own : Option Nat) (d : Dk), v7 = .int .i64 left ∧ v8 = .int .i64 (j : Int) ∧ Aside0 (j + kq = N + 1 ∧ j ≤ N) ∧ Aside0 (0 ≤ left ∧ left < 12) ∧ Aside0 (St w1 w' g own d) ∧ Aside0 (InvL j left d))
  case atStart => exact ⟨0, lm, none, _, rfl, rfl, ⟨by omega, by omega⟩, HLM, ⟨by repeat (first | exact HS.out | apply St.alloc | apply St.drewN | apply St.drew)⟩, HI⟩
  case round =>
    clear HI HS
    obtain ⟨j, left, own, d, rfl, rfl, HJ, HLF, HS, HI⟩ := hrel
    have hj := HJ.out
    have hn := HN.out
    have hc := HC.out
    by_cases cj : j < N
    · have d1 : decide ((j : Int) < (l0.length : Int)) = true := decide_eq_true (by omega)
      have d2 : decide ((j : Int) < 30) = true := decide_eq_true (by omega)
      have q0 : ((0 : Int) ≤ (j : Int)) = True := eq_true (by omega)
      have q1 : ((j : Int) < (l0.length : Int)) = True := eq_true (by omega)
      have wj : wrap64 ((j : Int) + 1) = ((j + 1 : Nat) : Int) := by unfold wrap64; omega
      obtain ⟨ad, ea, zw0, zw1⟩ := at_Wr HR0.out (j : Int) (by omega) (by omega)
      subst ea
      rw [Int.toNat_natCast] at zw0 zw1
      have HX := Aside0.mk (rd_Wr_ok HF.out (j : Int))
      generalize rd_Wr l0 (j : Int) = x at zw0 zw1 HX
      have HCJ := Aside0.mk cj
      have HJ3 := Aside0.mk (show j < 100000 by omega)
      have CW := Aside0.mk (show ∀ {W : World}, Below w.heap.size w W → W.cell? (ad.add (j * 2)) = some (.int .u8 x.f0) ∧ W.cell? ⟨(ad.add (j * 2)).block, (ad.add (j * 2)).off + 1, none⟩ = some (.int .u8 x.f1) from fun {W} hb => ⟨(cell_same (hb.block _ (World.block_lt_of_cell? _ _ zw0))).trans zw0, (cell_same (hb.block _ (World.block_lt_of_cell? _ _ zw1))).trans zw1⟩)
      obtain ⟨wx, im0, im1⟩ := im8 6 HX.out.1 (by decide)
      obtain ⟨im, him⟩ : ∃ im, x.f0.tmod 6 = im := ⟨_, rfl⟩
      rw [him] at im0 im1
      have HNL := Aside0.mk (show d.now.length < 8796093022208 from by have := HI.out.ok.nlen; have := HI.out.room; omega)
      have HFEW := Aside0.mk HI.out.ok.few
      clear hj hn hc cj zw0 zw1
      have HGA := Aside0.mk (show g < wr.heap.size from HS.out.dk.lt)
      have HOA := Aside0.mk HS.out.dk.own_lt
      have HNL8 := Aside0.mk (show d.now.length < 1099511627776 from by have := HI.out.ok.nlen; have := HI.out.room; omega)
      by_cases cz : left = 0
      · have HL0 := Aside0.mk (show left = 0 from cz)
        have HI0 : InvL j 0 d := cz ▸ HI.out
        have HSY := Aside0.mk (HI0.dead im (pageB x.f1)).1
        have HWR := Aside0.mk (HI0.dead im (pageB x.f1)).2
        have HI2 := Aside0.mk HI.out.more
        by_cases c0 : x.f1 = 0
        · skip
          have e0 : (x.f1 == 0) = true := beq_iff_eq.mpr c0
          have e1 : (x.f1 != 0) = false := bne_eq_false_iff_eq.mpr c0
          have e3 : (left == 0) = true := beq_iff_eq.mpr cz
          have e0b : decide (x.f1 = 0) = true := decide_eq_true c0
          have e3b : decide (left = 0) = true := decide_eq_true cz
          clear c0 cz im0 im1 HI0
          go_wp2_with (first
            | (go_at_call 19; (with_reducible refine Calls.mono (st_All (show St w1 _ g _ d from by repeat (first | exact HS.out | apply St.alloc | apply St.drewN | apply St.drew)) HNL.out) ?_; rintro e w2 ⟨va, rfl, ra, b1⟩; (first | (have n1_ := Aside0.mk (Kd.R_below (by repeat (first | exact HA.out | apply Kd.R_alloc | apply Kd.R_drewN | apply Kd.R_drew)) b1); have HV := Aside0.mk ra; clear HA; have HA := n1_; clear n1_) | (have HA := Aside0.mk ra)); clear ra; have n0_ := Aside0.mk (St.below (show St w1 _ g _ _ from by repeat (first | exact HS.out | apply St.alloc | apply St.drewN | apply St.drew)) b1); clear HS b1; have HS := n0_; clear n0_; obtain ⟨zc0, zc1⟩ := CW.out (HS.out.old HB.out HG.out)))
            | (go_at_call 26; with_reducible refine Calls.mono (st_Sync' (show St w1 _ g _ d from by repeat (first | exact HS.out | apply St.alloc | apply St.drewN | apply St.drew)) HSY.out.1 HSY.out.2) ?_; rintro e w3 ⟨rfl, own1, h1, -, k1⟩; (have n1_ := Aside0.mk (row_kp (by repeat (first | exact HA.out | apply Kd.R_alloc | apply Kd.R_drewN | apply Kd.R_drew)) HGA.out k1); clear HA; have HA := n1_; clear n1_); clear HS k1; have HS := Aside0.mk h1; clear h1; obtain ⟨zc0, zc1⟩ := CW.out (HS.out.old HB.out HG.out))
            | (go_at_call 24; with_reducible refine Calls.mono (page_calls x.f1 _) ?_; rintro e w4 ⟨rfl, b1⟩; have n0_ := Aside0.mk (St.below (show St w1 _ g _ _ from by repeat (first | exact HS.out | apply St.alloc | apply St.drewN | apply St.drew)) b1); (try (have n1_ := Aside0.mk (Kd.R_below (by repeat (first | exact HA.out | apply Kd.R_alloc | apply Kd.R_drewN | apply Kd.R_drew)) b1); clear HA; have HA := n1_; clear n1_)); clear HS b1; have HS := n0_; clear n0_; obtain ⟨zc0, zc1⟩ := CW.out (HS.out.old HB.out HG.out))
            | (go_at_call 25; with_reducible refine Calls.mono (st_Write' (show St w1 _ g _ d from by repeat (first | exact HS.out | apply St.alloc | apply St.drewN | apply St.drew)) im (pageB x.f1) HFEW.out HWR.out.1 HWR.out.2) ?_; rintro e w5 ⟨rfl, own1, h1, m1⟩; (have n1_ := Aside0.mk (row_mv (by repeat (first | exact HA.out | apply Kd.R_alloc | apply Kd.R_drewN | apply Kd.R_drew)) HGA.out HOA.out m1); clear HA; have HA := n1_; clear n1_); clear HS m1; have HS := Aside0.mk h1; clear h1; obtain ⟨zc0, zc1⟩ := CW.out (HS.out.old HB.out HG.out))
            | (go_at_call 18; with_reducible refine Calls.mono (words_R HV.out (show Kd.R Kd.string 9 _ _ (fun _ => True) _ d.now from by repeat (first | exact HA.out | apply Kd.R_alloc | apply Kd.R_drewN | apply Kd.R_drew)) (by have := HNL8.out; omega)) ?_; rintro e w6 ⟨rfl, b1⟩; have n0_ := Aside0.mk (St.below (show St w1 _ g _ _ from by repeat (first | exact HS.out | apply St.alloc | apply St.drewN | apply St.drew)) b1); (try (have n1_ := Aside0.mk (Kd.R_below (by repeat (first | exact HA.out | apply Kd.R_alloc | apply Kd.R_drewN | apply Kd.R_drew)) b1); clear HA; have HA := n1_; clear n1_)); clear HS b1; have HS := n0_; clear n0_; obtain ⟨zc0, zc1⟩ := CW.out (HS.out.old HB.out HG.out)))
          go_roundg (N - j)
          case measure => have := HJ.out; omega
          case rel => exact ⟨j + 1, left, _, _, rfl, by rw [wj], ⟨by have := HJ.out; have := HCJ.out; omega, by have := HCJ.out; omega⟩, ⟨by have := HLF.out; have := HL0.out; omega, by have := HLF.out; omega⟩, ⟨by repeat (first | exact HS.out | apply St.alloc | apply St.drewN | apply St.drew)⟩, HI2⟩
        · by_cases c1 : 3 < im
          · skip
            have e0 : (x.f1 == 0) = false := beq_eq_false_iff_ne.mpr c0
            have e1 : (x.f1 != 0) = true := bne_iff_ne.mpr c0
            have e2 : decide (3 < im) = true := decide_eq_true c1
            have e3 : (left == 0) = true := beq_iff_eq.mpr cz
            have e0b : decide (x.f1 = 0) = false := decide_eq_false c0
            have e3b : decide (left = 0) = true := decide_eq_true cz
            clear c0 c1 cz im0 im1 HI0
            go_wp2_with (first
              | (go_at_call 19; (with_reducible refine Calls.mono (st_All (show St w1 _ g _ d from by repeat (first | exact HS.out | apply St.alloc | apply St.drewN | apply St.drew)) HNL.out) ?_; rintro e w2 ⟨va, rfl, ra, b1⟩; (first | (have n1_ := Aside0.mk (Kd.R_below (by repeat (first | exact HA.out | apply Kd.R_alloc | apply Kd.R_drewN | apply Kd.R_drew)) b1); have HV := Aside0.mk ra; clear HA; have HA := n1_; clear n1_) | (have HA := Aside0.mk ra)); clear ra; have n0_ := Aside0.mk (St.below (show St w1 _ g _ _ from by repeat (first | exact HS.out | apply St.alloc | apply St.drewN | apply St.drew)) b1); clear HS b1; have HS := n0_; clear n0_; obtain ⟨zc0, zc1⟩ := CW.out (HS.out.old HB.out HG.out)))
              | (go_at_call 26; with_reducible refine Calls.mono (st_Sync' (show St w1 _ g _ d from by repeat (first | exact HS.out | apply St.alloc | apply St.drewN | apply St.drew)) HSY.out.1 HSY.out.2) ?_; rintro e w3 ⟨rfl, own1, h1, -, k1⟩; (have n1_ := Aside0.mk (row_kp (by repeat (first | exact HA.out | apply Kd.R_alloc | apply Kd.R_drewN | apply Kd.R_drew)) HGA.out k1); clear HA; have HA := n1_; clear n1_); clear HS k1; have HS := Aside0.mk h1; clear h1; obtain ⟨zc0, zc1⟩ := CW.out (HS.out.old HB.out HG.out))
              | (go_at_call 24; with_reducible refine Calls.mono (page_calls x.f1 _) ?_; rintro e w4 ⟨rfl, b1⟩; have n0_ := Aside0.mk (St.below (show St w1 _ g _ _ from by repeat (first | exact HS.out | apply St.alloc | apply St.drewN | apply St.drew)) b1); (try (have n1_ := Aside0.mk (Kd.R_below (by repeat (first | exact HA.out | apply Kd.R_alloc | apply Kd.R_drewN | apply Kd.R_drew)) b1); clear HA; have HA := n1_; clear n1_)); clear HS b1; have HS := n0_; clear n0_; obtain ⟨zc0, zc1⟩ := CW.out (HS.out.old HB.out HG.out))
              | (go_at_call 25; with_reducible refine Calls.mono (st_Write' (show St w1 _ g _ d from by repeat (first | exact HS.out | apply St.alloc | apply St.drewN | apply St.drew)) im (pageB x.f1) HFEW.out HWR.out.1 HWR.out.2) ?_; rintro e w5 ⟨rfl, own1, h1, m1⟩; (have n1_ := Aside0.mk (row_mv (by repeat (first | exact HA.out | apply Kd.R_alloc | apply Kd.R_drewN | apply Kd.R_drew)) HGA.out HOA.out m1); clear HA; have HA := n1_; clear n1_); clear HS m1; have HS := Aside0.mk h1; clear h1; obtain ⟨zc0, zc1⟩ := CW.out (HS.out.old HB.out HG.out))
              | (go_at_call 18; with_reducible refine Calls.mono (words_R HV.out (show Kd.R Kd.string 9 _ _ (fun _ => True) _ d.now from by repeat (first | exact HA.out | apply Kd.R_alloc | apply Kd.R_drewN | apply Kd.R_drew)) (by have := HNL8.out; omega)) ?_; rintro e w6 ⟨rfl, b1⟩; have n0_ := Aside0.mk (St.below (show St w1 _ g _ _ from by repeat (first | exact HS.out | apply St.alloc | apply St.drewN | apply St.drew)) b1); (try (have n1_ := Aside0.mk (Kd.R_below (by repeat (first | exact HA.out | apply Kd.R_alloc | apply Kd.R_drewN | apply Kd.R_drew)) b1); clear HA; have HA := n1_; clear n1_)); clear HS b1; have HS := n0_; clear n0_; obtain ⟨zc0, zc1⟩ := CW.out (HS.out.old HB.out HG.out)))
            go_roundg (N - j)
            case measure => have := HJ.out; omega
            case rel => exact ⟨j + 1, left, _, _, rfl, by rw [wj], ⟨by have := HJ.out; have := HCJ.out; omega, by have := HCJ.out; omega⟩, ⟨by have := HLF.out; have := HL0.out; omega, by have := HLF.out; omega⟩, ⟨by repeat (first | exact HS.out | apply St.alloc | apply St.drewN | apply St.drew)⟩, HI2⟩
          · skip
            have e0 : (x.f1 == 0) = false := beq_eq_false_iff_ne.mpr c0
            have e1 : (x.f1 != 0) = true := bne_iff_ne.mpr c0
            have e2 : decide (3 < im) = false := decide_eq_false c1
            have e3 : (left == 0) = true := beq_iff_eq.mpr cz
            have e0b : decide (x.f1 = 0) = false := decide_eq_false c0
            have e3b : decide (left = 0) = true := decide_eq_true cz
            clear c0 c1 cz im0 im1 HI0
            go_wp2_with (first
              | (go_at_call 19; (with_reducible refine Calls.mono (st_All (show St w1 _ g _ d from by repeat (first | exact HS.out | apply St.alloc | apply St.drewN | apply St.drew)) HNL.out) ?_; rintro e w2 ⟨va, rfl, ra, b1⟩; (first | (have n1_ := Aside0.mk (Kd.R_below (by repeat (first | exact HA.out | apply Kd.R_alloc | apply Kd.R_drewN | apply Kd.R_drew)) b1); have HV := Aside0.mk ra; clear HA; have HA := n1_; clear n1_) | (have HA := Aside0.mk ra)); clear ra; have n0_ := Aside0.mk (St.below (show St w1 _ g _ _ from by repeat (first | exact HS.out | apply St.alloc | apply St.drewN | apply St.drew)) b1); clear HS b1; have HS := n0_; clear n0_; obtain ⟨zc0, zc1⟩ := CW.out (HS.out.old HB.out HG.out)))
              | (go_at_call 26; with_reducible refine Calls.mono (st_Sync' (show St w1 _ g _ d from by repeat (first | exact HS.out | apply St.alloc | apply St.drewN | apply St.drew)) HSY.out.1 HSY.out.2) ?_; rintro e w3 ⟨rfl, own1, h1, -, k1⟩; (have n1_ := Aside0.mk (row_kp (by repeat (first | exact HA.out | apply Kd.R_alloc | apply Kd.R_drewN | apply Kd.R_drew)) HGA.out k1); clear HA; have HA := n1_; clear n1_); clear HS k1; have HS := Aside0.mk h1; clear h1; obtain ⟨zc0, zc1⟩ := CW.out (HS.out.old HB.out HG.out))
              | (go_at_call 24; with_reducible refine Calls.mono (page_calls x.f1 _) ?_; rintro e w4 ⟨rfl, b1⟩; have n0_ := Aside0.mk (St.below (show St w1 _ g _ _ from by repeat (first | exact HS.out | apply St.alloc | apply St.drewN | apply St.drew)) b1); (try (have n1_ := Aside0.mk (Kd.R_below (by repeat (first | exact HA.out | apply Kd.R_alloc | apply Kd.R_drewN | apply Kd.R_drew)) b1); clear HA; have HA := n1_; clear n1_)); clear HS b1; have HS := n0_; clear n0_; obtain ⟨zc0, zc1⟩ := CW.out (HS.out.old HB.out HG.out))
              | (go_at_call 25; with_reducible refine Calls.mono (st_Write' (show St w1 _ g _ d from by repeat (first | exact HS.out | apply St.alloc | apply St.drewN | apply St.drew)) im (pageB x.f1) HFEW.out HWR.out.1 HWR.out.2) ?_; rintro e w5 ⟨rfl, own1, h1, m1⟩; (have n1_ := Aside0.mk (row_mv (by repeat (first | exact HA.out | apply Kd.R_alloc | apply Kd.R_drewN | apply Kd.R_drew)) HGA.out HOA.out m1); clear HA; have HA := n1_; clear n1_); clear HS m1; have HS := Aside0.mk h1; clear h1; obtain ⟨zc0, zc1⟩ := CW.out (HS.out.old HB.out HG.out))
              | (go_at_call 18; with_reducible refine Calls.mono (words_R HV.out (show Kd.R Kd.string 9 _ _ (fun _ => True) _ d.now from by repeat (first | exact HA.out | apply Kd.R_alloc | apply Kd.R_drewN | apply Kd.R_drew)) (by have := HNL8.out; omega)) ?_; rintro e w6 ⟨rfl, b1⟩; have n0_ := Aside0.mk (St.below (show St w1 _ g _ _ from by repeat (first | exact HS.out | apply St.alloc | apply St.drewN | apply St.drew)) b1); (try (have n1_ := Aside0.mk (Kd.R_below (by repeat (first | exact HA.out | apply Kd.R_alloc | apply Kd.R_drewN | apply Kd.R_drew)) b1); clear HA; have HA := n1_; clear n1_)); clear HS b1; have HS := n0_; clear n0_; obtain ⟨zc0, zc1⟩ := CW.out (HS.out.old HB.out HG.out)))
            go_roundg (N - j)
            case measure => have := HJ.out; omega
            case rel => exact ⟨j + 1, left, _, _, rfl, by rw [wj], ⟨by have := HJ.out; have := HCJ.out; omega, by have := HCJ.out; omega⟩, ⟨by have := HLF.out; have := HL0.out; omega, by have := HLF.out; omega⟩, ⟨by repeat (first | exact HS.out | apply St.alloc | apply St.drewN | apply St.drew)⟩, HI2⟩
      · have HL0 := Aside0.mk (show 0 < left from by have := HLF.out; omega)
        have wl : wrap64 (left - 1) = left - 1 := by have := HLF.out; unfold wrap64; omega
        by_cases c0 : x.f1 = 0
        · have hsy := HI.out.sync HL0.out (by have := HLF.out; omega)
          obtain ⟨d2, hd2⟩ : ∃ d2, d.sync = d2 := ⟨_, rfl⟩
          rw [hd2] at hsy
          have HSY := Aside0.mk (show (if d.left = 0 then 9 else 0) = (0 : Int) ∧ d.sync = d2 from ⟨hsy.1, hd2⟩)
          have HI2 := Aside0.mk hsy.2
          clear hsy hd2
          have e0 : (x.f1 == 0) = true := beq_iff_eq.mpr c0
          have e1 : (x.f1 != 0) = false := bne_eq_false_iff_eq.mpr c0
          have e3 : (left == 0) = false := beq_eq_false_iff_ne.mpr cz
          have e0b : decide (x.f1 = 0) = true := decide_eq_true c0
          have e3b : decide (left = 0) = false := decide_eq_false cz
          clear c0 cz im0 im1
          go_wp2_with (first
            | (go_at_call 19; (with_reducible refine Calls.mono (st_All (show St w1 _ g _ d from by repeat (first | exact HS.out | apply St.alloc | apply St.drewN | apply St.drew)) HNL.out) ?_; rintro e w2 ⟨va, rfl, ra, b1⟩; (first | (have n1_ := Aside0.mk (Kd.R_below (by repeat (first | exact HA.out | apply Kd.R_alloc | apply Kd.R_drewN | apply Kd.R_drew)) b1); have HV := Aside0.mk ra; clear HA; have HA := n1_; clear n1_) | (have HA := Aside0.mk ra)); clear ra; have n0_ := Aside0.mk (St.below (show St w1 _ g _ _ from by repeat (first | exact HS.out | apply St.alloc | apply St.drewN | apply St.drew)) b1); clear HS b1; have HS := n0_; clear n0_; obtain ⟨zc0, zc1⟩ := CW.out (HS.out.old HB.out HG.out)))
            | (go_at_call 26; with_reducible refine Calls.mono (st_Sync' (show St w1 _ g _ d from by repeat (first | exact HS.out | apply St.alloc | apply St.drewN | apply St.drew)) HSY.out.1 HSY.out.2) ?_; rintro e w3 ⟨rfl, own1, h1, -, k1⟩; (have n1_ := Aside0.mk (row_kp (by repeat (first | exact HA.out | apply Kd.R_alloc | apply Kd.R_drewN | apply Kd.R_drew)) HGA.out k1); clear HA; have HA := n1_; clear n1_); clear HS k1; have HS := Aside0.mk h1; clear h1; obtain ⟨zc0, zc1⟩ := CW.out (HS.out.old HB.out HG.out))
            | (go_at_call 24; with_reducible refine Calls.mono (page_calls x.f1 _) ?_; rintro e w4 ⟨rfl, b1⟩; have n0_ := Aside0.mk (St.below (show St w1 _ g _ _ from by repeat (first | exact HS.out | apply St.alloc | apply St.drewN | apply St.drew)) b1); (try (have n1_ := Aside0.mk (Kd.R_below (by repeat (first | exact HA.out | apply Kd.R_alloc | apply Kd.R_drewN | apply Kd.R_drew)) b1); clear HA; have HA := n1_; clear n1_)); clear HS b1; have HS := n0_; clear n0_; obtain ⟨zc0, zc1⟩ := CW.out (HS.out.old HB.out HG.out))
            | (go_at_call 25; with_reducible refine Calls.mono (st_Write' (show St w1 _ g _ d from by repeat (first | exact HS.out | apply St.alloc | apply St.drewN | apply St.drew)) im (pageB x.f1) HFEW.out HWR.out.1 HWR.out.2) ?_; rintro e w5 ⟨rfl, own1, h1, m1⟩; (have n1_ := Aside0.mk (row_mv (by repeat (first | exact HA.out | apply Kd.R_alloc | apply Kd.R_drewN | apply Kd.R_drew)) HGA.out HOA.out m1); clear HA; have HA := n1_; clear n1_); clear HS m1; have HS := Aside0.mk h1; clear h1; obtain ⟨zc0, zc1⟩ := CW.out (HS.out.old HB.out HG.out))
            | (go_at_call 18; with_reducible refine Calls.mono (words_R HV.out (show Kd.R Kd.string 9 _ _ (fun _ => True) _ d.now from by repeat (first | exact HA.out | apply Kd.R_alloc | apply Kd.R_drewN | apply Kd.R_drew)) (by have := HNL8.out; omega)) ?_; rintro e w6 ⟨rfl, b1⟩; have n0_ := Aside0.mk (St.below (show St w1 _ g _ _ from by repeat (first | exact HS.out | apply St.alloc | apply St.drewN | apply St.drew)) b1); (try (have n1_ := Aside0.mk (Kd.R_below (by repeat (first | exact HA.out | apply Kd.R_alloc | apply Kd.R_drewN | apply Kd.R_drew)) b1); clear HA; have HA := n1_; clear n1_)); clear HS b1; have HS := n0_; clear n0_; obtain ⟨zc0, zc1⟩ := CW.out (HS.out.old HB.out HG.out)))
          go_roundg (N - j)
          case measure => have := HJ.out; omega
          case rel => exact ⟨j + 1, left - 1, _, _, by rw [wl], by rw [wj], ⟨by have := HJ.out; have := HCJ.out; omega, by have := HCJ.out; omega⟩, ⟨by have := HLF.out; have := HL0.out; omega, by have := HLF.out; omega⟩, ⟨by repeat (first | exact HS.out | apply St.alloc | apply St.drewN | apply St.drew)⟩, HI2⟩
        · by_cases c1 : 3 < im
          · have HWR := Aside0.mk (HI.out.full (by have := HL0.out; omega) c1 (pageB_size x.f1))
            have HI2 := Aside0.mk HI.out.more
            have e0 : (x.f1 == 0) = false := beq_eq_false_iff_ne.mpr c0
            have e1 : (x.f1 != 0) = true := bne_iff_ne.mpr c0
            have e2 : decide (3 < im) = true := decide_eq_true c1
            have e3 : (left == 0) = false := beq_eq_false_iff_ne.mpr cz
            have e0b : decide (x.f1 = 0) = false := decide_eq_false c0
            have e3b : decide (left = 0) = false := decide_eq_false cz
            clear c0 c1 cz im0 im1
            go_wp2_with (first
              | (go_at_call 19; (with_reducible refine Calls.mono (st_All (show St w1 _ g _ d from by repeat (first | exact HS.out | apply St.alloc | apply St.drewN | apply St.drew)) HNL.out) ?_; rintro e w2 ⟨va, rfl, ra, b1⟩; (first | (have n1_ := Aside0.mk (Kd.R_below (by repeat (first | exact HA.out | apply Kd.R_alloc | apply Kd.R_drewN | apply Kd.R_drew)) b1); have HV := Aside0.mk ra; clear HA; have HA := n1_; clear n1_) | (have HA := Aside0.mk ra)); clear ra; have n0_ := Aside0.mk (St.below (show St w1 _ g _ _ from by repeat (first | exact HS.out | apply St.alloc | apply St.drewN | apply St.drew)) b1); clear HS b1; have HS := n0_; clear n0_; obtain ⟨zc0, zc1⟩ := CW.out (HS.out.old HB.out HG.out)))
              | (go_at_call 26; with_reducible refine Calls.mono (st_Sync' (show St w1 _ g _ d from by repeat (first | exact HS.out | apply St.alloc | apply St.drewN | apply St.drew)) HSY.out.1 HSY.out.2) ?_; rintro e w3 ⟨rfl, own1, h1, -, k1⟩; (have n1_ := Aside0.mk (row_kp (by repeat (first | exact HA.out | apply Kd.R_alloc | apply Kd.R_drewN | apply Kd.R_drew)) HGA.out k1); clear HA; have HA := n1_; clear n1_); clear HS k1; have HS := Aside0.mk h1; clear h1; obtain ⟨zc0, zc1⟩ := CW.out (HS.out.old HB.out HG.out))
              | (go_at_call 24; with_reducible refine Calls.mono (page_calls x.f1 _) ?_; rintro e w4 ⟨rfl, b1⟩; have n0_ := Aside0.mk (St.below (show St w1 _ g _ _ from by repeat (first | exact HS.out | apply St.alloc | apply St.drewN | apply St.drew)) b1); (try (have n1_ := Aside0.mk (Kd.R_below (by repeat (first | exact HA.out | apply Kd.R_alloc | apply Kd.R_drewN | apply Kd.R_drew)) b1); clear HA; have HA := n1_; clear n1_)); clear HS b1; have HS := n0_; clear n0_; obtain ⟨zc0, zc1⟩ := CW.out (HS.out.old HB.out HG.out))
              | (go_at_call 25; with_reducible refine Calls.mono (st_Write' (show St w1 _ g _ d from by repeat (first | exact HS.out | apply St.alloc | apply St.drewN | apply St.drew)) im (pageB x.f1) HFEW.out HWR.out.1 HWR.out.2) ?_; rintro e w5 ⟨rfl, own1, h1, m1⟩; (have n1_ := Aside0.mk (row_mv (by repeat (first | exact HA.out | apply Kd.R_alloc | apply Kd.R_drewN | apply Kd.R_drew)) HGA.out HOA.out m1); clear HA; have HA := n1_; clear n1_); clear HS m1; have HS := Aside0.mk h1; clear h1; obtain ⟨zc0, zc1⟩ := CW.out (HS.out.old HB.out HG.out))
              | (go_at_call 18; with_reducible refine Calls.mono (words_R HV.out (show Kd.R Kd.string 9 _ _ (fun _ => True) _ d.now from by repeat (first | exact HA.out | apply Kd.R_alloc | apply Kd.R_drewN | apply Kd.R_drew)) (by have := HNL8.out; omega)) ?_; rintro e w6 ⟨rfl, b1⟩; have n0_ := Aside0.mk (St.below (show St w1 _ g _ _ from by repeat (first | exact HS.out | apply St.alloc | apply St.drewN | apply St.drew)) b1); (try (have n1_ := Aside0.mk (Kd.R_below (by repeat (first | exact HA.out | apply Kd.R_alloc | apply Kd.R_drewN | apply Kd.R_drew)) b1); clear HA; have HA := n1_; clear n1_)); clear HS b1; have HS := n0_; clear n0_; obtain ⟨zc0, zc1⟩ := CW.out (HS.out.old HB.out HG.out)))
            go_roundg (N - j)
            case measure => have := HJ.out; omega
            case rel => exact ⟨j + 1, left, _, _, rfl, by rw [wj], ⟨by have := HJ.out; have := HCJ.out; omega, by have := HCJ.out; omega⟩, ⟨by have := HLF.out; have := HL0.out; omega, by have := HLF.out; omega⟩, ⟨by repeat (first | exact HS.out | apply St.alloc | apply St.drewN | apply St.drew)⟩, HI2⟩
          · have hwr := HI.out.write HJ3.out HL0.out (by have := HLF.out; omega) im0 (by omega) (pageB_size x.f1)
            obtain ⟨d2, hd2⟩ : ∃ d2, d.write im (pageB x.f1) = d2 := ⟨_, rfl⟩
            rw [hd2] at hwr
            have HWR := Aside0.mk (show d.writeE im (pageB x.f1) = 0 ∧ d.write im (pageB x.f1) = d2 from ⟨hwr.1, hd2⟩)
            have HI2 := Aside0.mk hwr.2
            clear hwr hd2
            have e0 : (x.f1 == 0) = false := beq_eq_false_iff_ne.mpr c0
            have e1 : (x.f1 != 0) = true := bne_iff_ne.mpr c0
            have e2 : decide (3 < im) = false := decide_eq_false c1
            have e3 : (left == 0) = false := beq_eq_false_iff_ne.mpr cz
            have e0b : decide (x.f1 = 0) = false := decide_eq_false c0
            have e3b : decide (left = 0) = false := decide_eq_false cz
            clear c0 c1 cz im0 im1
            go_wp2_with (first
              | (go_at_call 19; (with_reducible refine Calls.mono (st_All (show St w1 _ g _ d from by repeat (first | exact HS.out | apply St.alloc | apply St.drewN | apply St.drew)) HNL.out) ?_; rintro e w2 ⟨va, rfl, ra, b1⟩; (first | (have n1_ := Aside0.mk (Kd.R_below (by repeat (first | exact HA.out | apply Kd.R_alloc | apply Kd.R_drewN | apply Kd.R_drew)) b1); have HV := Aside0.mk ra; clear HA; have HA := n1_; clear n1_) | (have HA := Aside0.mk ra)); clear ra; have n0_ := Aside0.mk (St.below (show St w1 _ g _ _ from by repeat (first | exact HS.out | apply St.alloc | apply St.drewN | apply St.drew)) b1); clear HS b1; have HS := n0_; clear n0_; obtain ⟨zc0, zc1⟩ := CW.out (HS.out.old HB.out HG.out)))
              | (go_at_call 26; with_reducible refine Calls.mono (st_Sync' (show St w1 _ g _ d from by repeat (first | exact HS.out | apply St.alloc | apply St.drewN | apply St.drew)) HSY.out.1 HSY.out.2) ?_; rintro e w3 ⟨rfl, own1, h1, -, k1⟩; (have n1_ := Aside0.mk (row_kp (by repeat (first | exact HA.out | apply Kd.R_alloc | apply Kd.R_drewN | apply Kd.R_drew)) HGA.out k1); clear HA; have HA := n1_; clear n1_); clear HS k1; have HS := Aside0.mk h1; clear h1; obtain ⟨zc0, zc1⟩ := CW.out (HS.out.old HB.out HG.out))
              | (go_at_call 24; with_reducible refine Calls.mono (page_calls x.f1 _) ?_; rintro e w4 ⟨rfl, b1⟩; have n0_ := Aside0.mk (St.below (show St w1 _ g _ _ from by repeat (first | exact HS.out | apply St.alloc | apply St.drewN | apply St.drew)) b1); (try (have n1_ := Aside0.mk (Kd.R_below (by repeat (first | exact HA.out | apply Kd.R_alloc | apply Kd.R_drewN | apply Kd.R_drew)) b1); clear HA; have HA := n1_; clear n1_)); clear HS b1; have HS := n0_; clear n0_; obtain ⟨zc0, zc1⟩ := CW.out (HS.out.old HB.out HG.out))
              | (go_at_call 25; with_reducible refine Calls.mono (st_Write' (show St w1 _ g _ d from by repeat (first | exact HS.out | apply St.alloc | apply St.drewN | apply St.drew)) im (pageB x.f1) HFEW.out HWR.out.1 HWR.out.2) ?_; rintro e w5 ⟨rfl, own1, h1, m1⟩; (have n1_ := Aside0.mk (row_mv (by repeat (first | exact HA.out | apply Kd.R_alloc | apply Kd.R_drewN | apply Kd.R_drew)) HGA.out HOA.out m1); clear HA; have HA := n1_; clear n1_); clear HS m1; have HS := Aside0.mk h1; clear h1; obtain ⟨zc0, zc1⟩ := CW.out (HS.out.old HB.out HG.out))
              | (go_at_call 18; with_reducible refine Calls.mono (words_R HV.out (show Kd.R Kd.string 9 _ _ (fun _ => True) _ d.now from by repeat (first | exact HA.out | apply Kd.R_alloc | apply Kd.R_drewN | apply Kd.R_drew)) (by have := HNL8.out; omega)) ?_; rintro e w6 ⟨rfl, b1⟩; have n0_ := Aside0.mk (St.below (show St w1 _ g _ _ from by repeat (first | exact HS.out | apply St.alloc | apply St.drewN | apply St.drew)) b1); (try (have n1_ := Aside0.mk (Kd.R_below (by repeat (first | exact HA.out | apply Kd.R_alloc | apply Kd.R_drewN | apply Kd.R_drew)) b1); clear HA; have HA := n1_; clear n1_)); clear HS b1; have HS := n0_; clear n0_; obtain ⟨zc0, zc1⟩ := CW.out (HS.out.old HB.out HG.out)))
            go_roundg (N - j)
            case measure => have := HJ.out; omega
            case rel => exact ⟨j + 1, left - 1, _, _, by rw [wl], by rw [wj], ⟨by have := HJ.out; have := HCJ.out; omega, by have := HCJ.out; omega⟩, ⟨by have := HLF.out; have := HL0.out; omega, by have := HLF.out; omega⟩, ⟨by repeat (first | exact HS.out | apply St.alloc | apply St.drewN | apply St.drew)⟩, HI2⟩
    · have ej : j = N := by omega
      rcases (show (l0.length : Int) ≤ (j : Int) ∨ ((j : Int) < (l0.length : Int) ∧ (30 : Int) ≤ (j : Int)) by omega) with c | c
      · have d1 : (j < l0.length) = False := eq_false (by omega)
        have HLS := Aside0.mk HI.out.last
        clear hj hn hc cj ej c
        go_wp2_with (first
          | (go_at_call 28; with_reducible refine Calls.mono (st_Limit (show St w1 _ g _ d from by repeat (first | exact HS.out | apply St.alloc | apply St.drewN | apply St.drew)) 1) ?_; rintro e w3 ⟨rfl, h1, -⟩; clear HS; have HS := Aside0.mk h1; clear h1)
          | (go_at_call 26; (first | with_reducible refine Calls.mono (st_Sync' (show St w1 _ g _ (d.limit 1) from by repeat (first | exact HS.out | apply St.alloc | apply St.drewN | apply St.drew)) HLS.out.1 rfl) ?_ | with_reducible refine Calls.mono (st_Sync' (show St w1 _ g _ (d.limit 1).sync from by repeat (first | exact HS.out | apply St.alloc | apply St.drewN | apply St.drew)) HLS.out.2 rfl) ?_); rintro e w3 ⟨rfl, own1, h1, -, -⟩; clear HS; have HS := Aside0.mk h1; clear h1)
          | (go_at_call 13; with_reducible refine Calls.mono (FC.out _) ?_; rintro e w8 ⟨rfl, b1⟩; have n0_ := Aside0.mk (St.below (show St w1 _ g _ _ from by repeat (first | exact HS.out | apply St.alloc | apply St.drewN | apply St.drew)) b1); clear HS b1; have HS := n0_; clear n0_))
        go_ret
        exact ⟨by first | rfl | (simp; done), St.old (show St w1 _ g _ (d.limit 1).sync.sync from by repeat (first | exact HS.out | apply St.alloc | apply St.drewN | apply St.drew)) HB.out HG.out⟩
      · have d1 : (j < l0.length) = True := eq_true (by omega)
        have d2 : decide ((j : Int) < 30) = false := decide_eq_false (by omega)
        have HLS := Aside0.mk HI.out.last
        clear hj hn hc cj ej c
        go_wp2_with (first
          | (go_at_call 28; with_reducible refine Calls.mono (st_Limit (show St w1 _ g _ d from by repeat (first | exact HS.out | apply St.alloc | apply St.drewN | apply St.drew)) 1) ?_; rintro e w3 ⟨rfl, h1, -⟩; clear HS; have HS := Aside0.mk h1; clear h1)
          | (go_at_call 26; (first | with_reducible refine Calls.mono (st_Sync' (show St w1 _ g _ (d.limit 1) from by repeat (first | exact HS.out | apply St.alloc | apply St.drewN | apply St.drew)) HLS.out.1 rfl) ?_ | with_reducible refine Calls.mono (st_Sync' (show St w1 _ g _ (d.limit 1).sync from by repeat (first | exact HS.out | apply St.alloc | apply St.drewN | apply St.drew)) HLS.out.2 rfl) ?_); rintro e w3 ⟨rfl, own1, h1, -, -⟩; clear HS; have HS := Aside0.mk h1; clear h1)
          | (go_at_call 13; with_reducible refine Calls.mono (FC.out _) ?_; rintro e w8 ⟨rfl, b1⟩; have n0_ := Aside0.mk (St.below (show St w1 _ g _ _ from by repeat (first | exact HS.out | apply St.alloc | apply St.drewN | apply St.drew)) b1); clear HS b1; have HS := n0_; clear n0_))
        go_ret
        exact ⟨by first | rfl | (simp; done), St.old (show St w1 _ g _ (d.limit 1).sync.sync from by repeat (first | exact HS.out | apply St.alloc | apply St.drewN | apply St.drew)) HB.out HG.out⟩
end Go.Proofs.Ytnmdpjbpbiempaa.P
