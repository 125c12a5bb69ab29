/- What is proved here: what the law DiskReads answers, by its walk. Conditions: as the theorem names them. -/
import Derived.Test.YtnmdpjbpbiempaaDkL
set_option linter.unusedVariables false
set_option linter.unusedSimpArgs false
namespace Go.Proofs.Ytnmdpjbpbiempaa.P
open Go.RowKit Go.Proofs.YtnmdpjbpbiempaaW.PrintWords Go.Proofs.YtnmdpjbpbiempaaW.PrintLast Go.Proofs.YtnmdpjbpbiempaaW.PrintMore
theorem new8 (w : World) : Calls Try.prog 23 #[.int .i64 128, .int .i64 8] w fun e w' => ∃ g, w.heap.size ≤ g ∧ e = .returned (.tuple #[.pointer (some ⟨g, 0, none⟩), .int .i64 0]) ∧ DkAt w' g none (fromD 128 8 ⟨#[]⟩ (fun _ => True)) ∧ Below w.heap.size w w' := dk_New w 128 8 (fun _ => True) (fun _ _ => trivial) (by decide +kernel)
set_option maxHeartbeats 2000000 in
set_option maxRecDepth 100000 in
theorem reads_walk (fixedC : ∀ w, Calls Try.prog 13 #[] w fun e w' => e = .returned (.bool true) ∧ Below w.heap.size w w') (w : World) (A0 : Option Addr) (c0 : Nat) (l0 : List Wr) (A1 : Option Addr) (c1 : Nat) (l1 : List Int) (hr0 : Kd.C kWr w A0 l0.length l0) (hc0 : l0.length ≤ c0) (hr1 : Kd.C (Kd.int .i64) w A1 l1.length l1) (hc1 : l1.length ≤ c1) (hf : ∀ x ∈ l0, WrOk x) (hl0 : l0.length < 9223372036854775807) (hl1 : l1.length < 9223372036854775807) :
    Calls Try.prog 8 #[.slice A0 l0.length c0, .slice A1 l1.length c1] w fun e w' => e = .returned (.bool true) ∧ Below w.heap.size w w' := by
  have HR0 := Aside0.mk hr0
  have HR1 := Aside0.mk hr1
  have HC := Aside0.mk (show (l0.length ≤ c0 ∧ l0.length < 9223372036854775807) ∧ l1.length ≤ c1 ∧ l1.length < 9223372036854775807 from ⟨⟨hc0, hl0⟩, hc1, hl1⟩)
  have HF := Aside0.mk hf
  have FC := Aside0.mk fixedC
  clear hr0 hr1 hc0 hl0 hc1 hl1 hf fixedC
  go_enter Try.func8, Try.ntmps8
  go_wp2_with (first
    | (go_at_call 23; with_reducible refine Calls.mono (new8 _) ?_; rintro e w1 ⟨g, hg, rfl, hd, b1⟩; have HG := Aside0.mk (show w.heap.size ≤ g by simpa using hg); have HB := Aside0.mk (show Below w.heap.size w w1 from below_step (by repeat (first | exact Below.refl _ _ | apply pw_below_drewN | apply below_drew1)) b1); have HS := Aside0.mk (St.init hd); clear hd hg b1))
  obtain ⟨N, hN⟩ : ∃ N : Nat, N = min l0.length 12 := ⟨_, rfl⟩
  have HN := Aside0.mk hN
  clear hN
  have HI := Aside0.mk (Inv.init 8 (fun _ => True) (by decide) (by decide))
  go_loopg [7] (N + 1) (fun kq v w' => ∃ (j : Nat) (own : Option Nat) (d : Dk), v = .int .i64 (j : Int) ∧ Aside0 (j + kq = N + 1 ∧ j ≤ N) ∧ Aside0 (St w1 w' g own d) ∧ Aside0 (Inv 8 j d) ∧ Aside0 (d.reads = 0))
  case atStart => exact ⟨0, none, fromD 128 8 ⟨#[]⟩ (fun _ => True), rfl, ⟨by omega, by omega⟩, ⟨by repeat (first | exact HS.out | apply St.alloc | apply St.drewN | apply St.drew)⟩, HI, ⟨rfl⟩⟩
  case round =>
    clear HI HS
    obtain ⟨j, own, d, rfl, HJ, HS, HI, HZ⟩ := hrel
    have hj := HJ.out
    have hn := HN.out
    have hc := HC.out
    by_cases cj : j < N
    · have d1 : decide ((j : Int) < (l0.length : Int)) = true := decide_eq_true (by omega)
      have d2 : decide ((j : Int) < 12) = true := decide_eq_true (by omega)
      have q0 : ((0 : Int) ≤ (j : Int)) = True := eq_true (by omega)
      have q1 : ((j : Int) < (l0.length : Int)) = True := eq_true (by omega)
      have wj : wrap64 ((j : Int) + 1) = ((j + 1 : Nat) : Int) := by unfold wrap64; omega
      obtain ⟨ad, ea, zw0, zw1⟩ := at_Wr HR0.out (j : Int) (by omega) (by omega)
      subst ea
      rw [Int.toNat_natCast] at zw0 zw1
      have HX := Aside0.mk (rd_Wr_ok HF.out (j : Int))
      generalize rd_Wr l0 (j : Int) = x at zw0 zw1 HX
      have HCJ := Aside0.mk cj
      clear hj hn hc cj
      go_wp2
      obtain ⟨wx, im0, im1⟩ := im8 8 HX.out.1 (by decide)
      obtain ⟨im, him⟩ : ∃ im, x.f0.tmod 8 = im := ⟨_, rfl⟩
      rw [him] at im0 im1
      have hb1 : Below w.heap.size w wr := HS.out.old HB.out HG.out
      have cw : ∀ {W : World}, Below w.heap.size w W → W.cell? (ad.add (j * 2)) = some (.int .u8 x.f0) ∧ W.cell? ⟨(ad.add (j * 2)).block, (ad.add (j * 2)).off + 1, none⟩ = some (.int .u8 x.f1) := fun {W} hb => ⟨(cell_same (hb.block _ (World.block_lt_of_cell? _ _ zw0))).trans zw0, (cell_same (hb.block _ (World.block_lt_of_cell? _ _ zw1))).trans zw1⟩
      have hwr := HI.out.write (i := im) (s := pageB x.f1) (by have := HJ.out; have := HN.out; omega) im0 im1 (pageB_size _)
      refine start_ (n := 16) (S := fun w' => w'.cell? (ad.add (j * 2)) = some (.int .u8 x.f0) ∧ w'.cell? ⟨(ad.add (j * 2)).block, (ad.add (j * 2)).off + 1, none⟩ = some (.int .u8 x.f1)) (ds := []) #[false, false, false, false, false, false, false, false, false, false, false, false, false, false, false, false] (by kernel_rfl) rfl rfl (cw (W := wr.drew) (below_drew1 hb1)) (fun hHeld => ?_)
      refine pure_ (i := 0) (N := some 33) (v := ?_) (a' := ?_) #[true, false, false, false, false, false, false, false, false, false, false, false, false, false, false, false] rfl rfl (by kernel_rfl) (fun _ _ _ h => h) (Or.inl ⟨by rfl, ?_⟩) ?_ ?_
      rotate_left
      · intro w'
        go_simp
        with_reducible rfl
      rotate_left
      · simp only [Act.put, List.setIfInBounds_toArray, List.set_cons_zero, List.set_cons_succ, i64_w, i32_w]
        rfl
      refine pure_ (i := 1) (N := some 34) (v := ?_) (a' := ?_) #[true, true, false, false, false, false, false, false, false, false, false, false, false, false, false, false] rfl rfl (by kernel_rfl) (fun _ _ _ h => h) (Or.inl ⟨by rfl, ?_⟩) ?_ ?_
      rotate_left
      · intro w'
        go_simp
        with_reducible rfl
      rotate_left
      · simp only [Act.put, List.setIfInBounds_toArray, List.set_cons_zero, List.set_cons_succ, i64_w, i32_w]
        rfl
      refine pure_ (i := 2) (N := some 35) (v := ?_) (a' := ?_) #[true, true, true, false, false, false, false, false, false, false, false, false, false, false, false, false] rfl rfl (by kernel_rfl) (fun _ _ _ h => h) (Or.inl ⟨by rfl, ?_⟩) ?_ ?_
      rotate_left
      · intro w'
        go_simp
        with_reducible rfl
      rotate_left
      · simp only [Act.put, List.setIfInBounds_toArray, List.set_cons_zero, List.set_cons_succ, i64_w, i32_w]
        rfl
      refine pure_ (i := 3) (N := some 36) (v := ?_) (a' := ?_) #[true, true, true, true, false, false, false, false, false, false, false, false, false, false, false, false] rfl rfl (by kernel_rfl) (fun _ _ _ h => h) (Or.inl ⟨by rfl, ?_⟩) ?_ ?_
      rotate_left
      · intro w'
        go_simp
        with_reducible rfl
      rotate_left
      · simp only [Act.put, List.setIfInBounds_toArray, List.set_cons_zero, List.set_cons_succ, i64_w, i32_w]
        rfl
      refine pure_ (i := 4) (N := some 37) (v := ?_) (a' := ?_) #[true, true, true, true, true, false, false, false, false, false, false, false, false, false, false, false] rfl rfl (by kernel_rfl) (fun _ _ _ h => h) (Or.inl ⟨by rfl, ?_⟩) ?_ ?_
      rotate_left
      · intro w'
        go_simp
        with_reducible rfl
      rotate_left
      · simp only [Act.put, List.setIfInBounds_toArray, List.set_cons_zero, List.set_cons_succ, i64_w, i32_w]
        rfl
      refine take_ (i := 5) (N := some 38) (v := ?_) (a' := ?_) #[true, true, true, true, true, true, false, false, false, false, false, false, false, false, false, false] rfl rfl (by kernel_rfl) (fun _ _ _ h => h) (Or.inl ⟨by rfl, ?_⟩) hHeld ?_ ?_
      rotate_left
      · rintro w' ⟨s0, s1⟩
        go_simp
        with_reducible rfl
      rotate_left
      · simp only [Act.put, List.setIfInBounds_toArray, List.set_cons_zero, List.set_cons_succ, i64_w, i32_w]
        rfl
      refine pure_ (i := 6) (N := some 39) (v := ?_) (a' := ?_) #[true, true, true, true, true, true, true, false, false, false, false, false, false, false, false, false] rfl rfl (by kernel_rfl) (fun _ _ _ h => h) (Or.inl ⟨by rfl, ?_⟩) ?_ ?_
      rotate_left
      · intro w'
        go_simp
        with_reducible rfl
      rotate_left
      · simp only [Act.put, List.setIfInBounds_toArray, List.set_cons_zero, List.set_cons_succ, i64_w, i32_w, wx]
        rfl
      refine pure_ (i := 7) (N := some 40) (v := ?_) (a' := ?_) #[true, true, true, true, true, true, true, true, false, false, false, false, false, false, false, false] rfl rfl (by kernel_rfl) (fun _ _ _ h => h) (Or.inl ⟨by rfl, ?_⟩) ?_ ?_
      rotate_left
      · intro w'
        go_simp
        with_reducible rfl
      rotate_left
      · simp only [Act.put, List.setIfInBounds_toArray, List.set_cons_zero, List.set_cons_succ, i64_w, i32_w, him]
        rfl
      refine pure_ (i := 8) (N := some 41) (v := ?_) (a' := ?_) #[true, true, true, true, true, true, true, true, true, false, false, false, false, false, false, false] rfl rfl (by kernel_rfl) (fun _ _ _ h => h) (Or.inl ⟨by rfl, ?_⟩) ?_ ?_
      rotate_left
      · intro w'
        go_simp
        with_reducible rfl
      rotate_left
      · simp only [Act.put, List.setIfInBounds_toArray, List.set_cons_zero, List.set_cons_succ, i64_w, i32_w]
        rfl
      refine pure_ (i := 9) (N := some 42) (v := ?_) (a' := ?_) #[true, true, true, true, true, true, true, true, true, true, false, false, false, false, false, false] rfl rfl (by kernel_rfl) (fun _ _ _ h => h) (Or.inl ⟨by rfl, ?_⟩) ?_ ?_
      rotate_left
      · intro w'
        go_simp
        with_reducible rfl
      rotate_left
      · simp only [Act.put, List.setIfInBounds_toArray, List.set_cons_zero, List.set_cons_succ, i64_w, i32_w]
        rfl
      refine pure_ (i := 10) (N := some 43) (v := ?_) (a' := ?_) #[true, true, true, true, true, true, true, true, true, true, true, false, false, false, false, false] rfl rfl (by kernel_rfl) (fun _ _ _ h => h) (Or.inl ⟨by rfl, ?_⟩) ?_ ?_
      rotate_left
      · intro w'
        go_simp
        with_reducible rfl
      rotate_left
      · simp only [Act.put, List.setIfInBounds_toArray, List.set_cons_zero, List.set_cons_succ, i64_w, i32_w]
        rfl
      refine pure_ (i := 11) (N := some 44) (v := ?_) (a' := ?_) #[true, true, true, true, true, true, true, true, true, true, true, true, false, false, false, false] rfl rfl (by kernel_rfl) (fun _ _ _ h => h) (Or.inl ⟨by rfl, ?_⟩) ?_ ?_
      rotate_left
      · intro w'
        go_simp
        with_reducible rfl
      rotate_left
      · simp only [Act.put, List.setIfInBounds_toArray, List.set_cons_zero, List.set_cons_succ, i64_w, i32_w]
        rfl
      refine take_ (i := 12) (N := some 45) (v := ?_) (a' := ?_) #[true, true, true, true, true, true, true, true, true, true, true, true, true, false, false, false] rfl rfl (by kernel_rfl) (fun _ _ _ h => h) (Or.inl ⟨by rfl, ?_⟩) hHeld ?_ ?_
      rotate_left
      · rintro w' ⟨s0, s1⟩
        go_simp
        with_reducible rfl
      rotate_left
      · simp only [Act.put, List.setIfInBounds_toArray, List.set_cons_zero, List.set_cons_succ, i64_w, i32_w]
        rfl
      refine one_ (i := 13) (N := some 46) #[true, true, true, true, true, true, true, true, true, true, true, true, true, true, false, false] rfl rfl (by kernel_rfl) (by decide) (fun K hK => ?_)
      refine goes_ Try.func24 (by kernel_rfl) rfl #[.int .u8 x.f1] (by rfl) rfl rfl (by (try simp only [List.map_toArray, List.map_cons, List.map_nil]); first | done | rfl) ?_
      refine Calls.mono (page_calls x.f1 _) ?_
      rintro e w9 ⟨rfl, b9⟩
      have hS9 : St w1 w9 g own d := HS.out.drew.below b9
      refine ⟨_, rfl, ?_⟩
      refine hK.out _ _ (cw (hS9.old HB.out HG.out)) (fun hHeld => ?_)
      clear hK K
      refine norm_ (a' := ?_) ?_ ?_
      rotate_left
      · show Act.put _ (some 46) _ = _
        simp only [Act.put, List.setIfInBounds_toArray, List.set_cons_zero, List.set_cons_succ, i64_w, i32_w]
        rfl
      refine one_ (i := 14) (N := some 47) #[true, true, true, true, true, true, true, true, true, true, true, true, true, true, true, false] rfl rfl (by kernel_rfl) (by decide) (fun K hK => ?_)
      refine goes_ Try.func25 (by kernel_rfl) rfl #[.pointer (some ⟨g, 0, none⟩), .int .i64 im, .string (pageB x.f1)] (by rfl) rfl rfl (by (try simp only [List.map_toArray, List.map_cons, List.map_nil]); first | done | rfl) ?_
      refine Calls.mono (st_Write' hS9 im (pageB x.f1) HI.out.ok.few hwr.1 rfl) ?_
      rintro e w10 ⟨rfl, own1, h1, -⟩
      refine ⟨_, rfl, ?_⟩
      refine hK.out _ _ (cw (h1.old HB.out HG.out)) (fun hHeld => ?_)
      clear hK K
      refine norm_ (a' := ?_) ?_ ?_
      rotate_left
      · show Act.put _ (some 47) _ = _
        simp only [Act.put, List.setIfInBounds_toArray, List.set_cons_zero, List.set_cons_succ, i64_w, i32_w]
        rfl
      refine pure_ (i := 15) (N := some 48) (v := ?_) (a' := ?_) #[true, true, true, true, true, true, true, true, true, true, true, true, true, true, true, true] rfl rfl (by kernel_rfl) (fun _ _ _ h => h) (Or.inl ⟨by rfl, ?_⟩) ?_ ?_
      rotate_left
      · intro w'
        go_simp
        with_reducible rfl
      rotate_left
      · simp only [Act.put, List.setIfInBounds_toArray, List.set_cons_zero, List.set_cons_succ, i64_w, i32_w]
        rfl
      refine done_ (by kernel_rfl) ?_
      clear hHeld hS9 b9 cw hb1 HS
      have HS := Aside0.mk h1
      clear h1
      have HW := Aside0.mk hwr
      clear hwr wx him im0 im1
      go_wp2
      go_roundg (N - j)
      case measure => have := HJ.out; omega
      case rel => exact ⟨j + 1, own1, _, by rw [wj], ⟨by have := HJ.out; have := HCJ.out; omega, by have := HCJ.out; omega⟩, ⟨by repeat (first | exact HS.out | apply St.alloc | apply St.drewN | apply St.drew)⟩, ⟨HW.out.2.1⟩, ⟨HW.out.2.2.1.trans HZ.out⟩⟩
    · have ej : j = N := by omega
      rcases (show (l0.length : Int) ≤ (j : Int) ∨ ((j : Int) < (l0.length : Int) ∧ (12 : Int) ≤ (j : Int)) by omega) with c | c
      · have d1 : (j < l0.length) = False := eq_false (by omega)
        have HDL := Aside0.mk (show d.now.length ≤ 8 from by have := HI.out.ok.nlen; have := HI.out.room; omega)
        clear hj hn hc c cj ej
        go_wp2_with (first
          | (go_at_call 19; with_reducible refine Calls.mono (st_All (show St w1 _ g own d from by repeat (first | exact HS.out | apply St.alloc | apply St.drewN | apply St.drew)) (by have := HDL.out; omega)) ?_; rintro e w2 ⟨va, rfl, ra, b1⟩; have HGA := Aside0.mk (DkAt.lt (show DkAt _ g own d from (show St w1 _ g own d from by repeat (first | exact HS.out | apply St.alloc | apply St.drewN | apply St.drew)).dk)); have n0_ := Aside0.mk (St.below (show St w1 _ g own d from by repeat (first | exact HS.out | apply St.alloc | apply St.drewN | apply St.drew)) b1); obtain ⟨Aa, ca, rfl⟩ := Kd.R_slice ra; have HA := Aside0.mk ra; clear HS b1 ra; have HS := n0_; clear n0_)
          | (go_at_call 15; with_reducible refine Calls.mono (st_Len (show St w1 _ g own d from by repeat (first | exact HS.out | apply St.alloc | apply St.drewN | apply St.drew))) ?_; rintro e w3 ⟨rfl, b1⟩; have n0_ := Aside0.mk (St.below (show St w1 _ g own d from by repeat (first | exact HS.out | apply St.alloc | apply St.drewN | apply St.drew)) b1); have n1_ := Aside0.mk (Kd.R_below (by repeat (first | exact HA.out | apply Kd.R_alloc | apply Kd.R_drewN | apply Kd.R_drew)) b1); clear HS HA b1; have HS := n0_; have HA := n1_; clear n0_ n1_)
          | (go_at_call 17; with_reducible refine Calls.mono (st_Reads' (show St w1 _ g own d from by repeat (first | exact HS.out | apply St.alloc | apply St.drewN | apply St.drew)) HZ.out) ?_; rintro e w4 ⟨rfl, b1⟩; have n0_ := Aside0.mk (St.below (show St w1 _ g own d from by repeat (first | exact HS.out | apply St.alloc | apply St.drewN | apply St.drew)) b1); have n1_ := Aside0.mk (Kd.R_below (by repeat (first | exact HA.out | apply Kd.R_alloc | apply Kd.R_drewN | apply Kd.R_drew)) b1); clear HS HA b1; have HS := n0_; have HA := n1_; clear n0_ n1_))
        have HS0 : Aside0 (St w1 w4 g own (d.atR 0)) := by rw [atR_zero d HZ.out]; exact HS
        clear HS
        have HS := HS0
        clear HS0
        generalize wr.heap.size = ba at HGA HA
        obtain ⟨N2, hN2⟩ : ∃ N2 : Nat, N2 = min l1.length 30 := ⟨_, rfl⟩
        have HN2 := Aside0.mk hN2
        clear hN2 d1
        go_loopg [10] (N2 + 1) (fun kq v w' => ∃ (i : Nat), v = .int .i64 (i : Int) ∧ Aside0 (i + kq = N2 + 1 ∧ i ≤ N2) ∧ Aside0 (St w1 w' g own (d.atR i)) ∧ Aside0 (Kd.R Kd.string 9 w' ba (fun _ => True) (.slice Aa d.now.length ca) d.now))
        case atStart => exact ⟨0, rfl, ⟨by omega, by omega⟩, ⟨by repeat (first | exact HS.out | apply St.alloc | apply St.drewN | apply St.drew)⟩, ⟨by repeat (first | exact HA.out | apply Kd.R_alloc | apply Kd.R_drewN | apply Kd.R_drew)⟩⟩
        case round =>
          clear HS HA
          obtain ⟨i, rfl, HII, HS, HA⟩ := hrel
          have hi := HII.out
          have hn := HN2.out
          have hc := HC.out
          by_cases ci : i < N2
          · have d1 : decide ((i : Int) < (l1.length : Int)) = true := decide_eq_true (by omega)
            have d2 : decide ((i : Int) < 30) = true := decide_eq_true (by omega)
            have q0 : ((0 : Int) ≤ (i : Int)) = True := eq_true (by omega)
            have q1 : ((i : Int) < (l1.length : Int)) = True := eq_true (by omega)
            have wi : wrap64 ((i : Int) + 1) = (i : Int) + 1 := by unfold wrap64; omega
            obtain ⟨ad, ea, zw⟩ := Kd.at_int HR1.out (i : Int) (by omega) (by omega)
            subst ea
            rw [Int.toNat_natCast] at zw
            generalize rd l1 (i : Int) = k at zw
            have zk : wr.cell? (ad.add i) = some (.int .i64 k) := (cell_same ((HS.out.old HB.out HG.out).block _ (World.block_lt_of_cell? _ _ zw))).trans zw
            have HCI := Aside0.mk ci
            clear hi hn hc ci
            by_cases ck0 : k < 0
            · have ck : k < 0 ∨ (d.now.length : Int) ≤ k := .inl ck0
              have HE := Aside0.mk (read_out d k ck)
              have b1 : decide (k < 0) = true := decide_eq_true ck0
              clear ck0
              clear ck
              go_wp2_with (first
                | (go_at_call 29; with_reducible refine Calls.mono (st_Read' (show St w1 _ g own (d.atR i) from by repeat (first | exact HS.out | apply St.alloc | apply St.drewN | apply St.drew)) k ((atR_read d i k).trans HE.out) (atR_next d i (by have := HII.out; have := HN2.out; omega))) ?_; rintro e w5 ⟨rfl, h1, k1⟩; have n1_ := Aside0.mk (row_kp (by repeat (first | exact HA.out | apply Kd.R_alloc | apply Kd.R_drewN | apply Kd.R_drew)) HGA.out k1); have zk5 := (cell_same ((h1.old HB.out HG.out).block _ (World.block_lt_of_cell? _ _ zw))).trans zw; clear HS HA k1; have HS := Aside0.mk h1; have HA := n1_; clear n1_ h1)
                | (go_at_call 17; with_reducible refine Calls.mono (st_Reads' (n := (i : Int) + 1) (show St w1 _ g own (d.atR ((i : Int) + 1)) from by repeat (first | exact HS.out | apply St.alloc | apply St.drewN | apply St.drew)) rfl) ?_; rintro e w6 ⟨rfl, b1⟩; have n0_ := Aside0.mk (St.below (show St w1 _ g own (d.atR ((i : Int) + 1)) from by repeat (first | exact HS.out | apply St.alloc | apply St.drewN | apply St.drew)) b1); have n1_ := Aside0.mk (Kd.R_below (by repeat (first | exact HA.out | apply Kd.R_alloc | apply Kd.R_drewN | apply Kd.R_drew)) b1); clear HS HA b1; have HS := n0_; have HA := n1_; clear n0_ n1_)
                | (go_at_call 15; with_reducible refine Calls.mono (st_Len' (n := (d.now.length : Int)) (show St w1 _ g own (d.atR ((i : Int) + 1)) from by repeat (first | exact HS.out | apply St.alloc | apply St.drewN | apply St.drew)) rfl) ?_; rintro e w6 ⟨rfl, b1⟩; have n0_ := Aside0.mk (St.below (show St w1 _ g own (d.atR ((i : Int) + 1)) from by repeat (first | exact HS.out | apply St.alloc | apply St.drewN | apply St.drew)) b1); have n1_ := Aside0.mk (Kd.R_below (by repeat (first | exact HA.out | apply Kd.R_alloc | apply Kd.R_drewN | apply Kd.R_drew)) b1); clear HS HA b1; have HS := n0_; have HA := n1_; clear n0_ n1_))
              go_roundg (N2 - i)
              case measure => have := HII.out; omega
              case rel => exact ⟨i + 1, by rw [wi]; rfl, ⟨by have := HII.out; have := HCI.out; omega, by have := HCI.out; omega⟩, ⟨by repeat (first | exact HS.out | apply St.alloc | apply St.drewN | apply St.drew)⟩, ⟨by repeat (first | exact HA.out | apply Kd.R_alloc | apply Kd.R_drewN | apply Kd.R_drew)⟩⟩
            · by_cases ck1 : (d.now.length : Int) ≤ k
              · have ck : k < 0 ∨ (d.now.length : Int) ≤ k := .inr ck1
                have HE := Aside0.mk (read_out d k ck)
                have b1 : decide (k < 0) = false := decide_eq_false ck0
                have b2 : decide ((d.now.length : Int) ≤ k) = true := decide_eq_true ck1
                clear ck0 ck1
                clear ck
                go_wp2_with (first
                  | (go_at_call 29; with_reducible refine Calls.mono (st_Read' (show St w1 _ g own (d.atR i) from by repeat (first | exact HS.out | apply St.alloc | apply St.drewN | apply St.drew)) k ((atR_read d i k).trans HE.out) (atR_next d i (by have := HII.out; have := HN2.out; omega))) ?_; rintro e w5 ⟨rfl, h1, k1⟩; have n1_ := Aside0.mk (row_kp (by repeat (first | exact HA.out | apply Kd.R_alloc | apply Kd.R_drewN | apply Kd.R_drew)) HGA.out k1); have zk5 := (cell_same ((h1.old HB.out HG.out).block _ (World.block_lt_of_cell? _ _ zw))).trans zw; clear HS HA k1; have HS := Aside0.mk h1; have HA := n1_; clear n1_ h1)
                  | (go_at_call 17; with_reducible refine Calls.mono (st_Reads' (n := (i : Int) + 1) (show St w1 _ g own (d.atR ((i : Int) + 1)) from by repeat (first | exact HS.out | apply St.alloc | apply St.drewN | apply St.drew)) rfl) ?_; rintro e w6 ⟨rfl, b1⟩; have n0_ := Aside0.mk (St.below (show St w1 _ g own (d.atR ((i : Int) + 1)) from by repeat (first | exact HS.out | apply St.alloc | apply St.drewN | apply St.drew)) b1); have n1_ := Aside0.mk (Kd.R_below (by repeat (first | exact HA.out | apply Kd.R_alloc | apply Kd.R_drewN | apply Kd.R_drew)) b1); clear HS HA b1; have HS := n0_; have HA := n1_; clear n0_ n1_)
                  | (go_at_call 15; with_reducible refine Calls.mono (st_Len' (n := (d.now.length : Int)) (show St w1 _ g own (d.atR ((i : Int) + 1)) from by repeat (first | exact HS.out | apply St.alloc | apply St.drewN | apply St.drew)) rfl) ?_; rintro e w6 ⟨rfl, b1⟩; have n0_ := Aside0.mk (St.below (show St w1 _ g own (d.atR ((i : Int) + 1)) from by repeat (first | exact HS.out | apply St.alloc | apply St.drewN | apply St.drew)) b1); have n1_ := Aside0.mk (Kd.R_below (by repeat (first | exact HA.out | apply Kd.R_alloc | apply Kd.R_drewN | apply Kd.R_drew)) b1); clear HS HA b1; have HS := n0_; have HA := n1_; clear n0_ n1_))
                go_roundg (N2 - i)
                case measure => have := HII.out; omega
                case rel => exact ⟨i + 1, by rw [wi]; rfl, ⟨by have := HII.out; have := HCI.out; omega, by have := HCI.out; omega⟩, ⟨by repeat (first | exact HS.out | apply St.alloc | apply St.drewN | apply St.drew)⟩, ⟨by repeat (first | exact HA.out | apply Kd.R_alloc | apply Kd.R_drewN | apply Kd.R_drew)⟩⟩
              · have ck : 0 ≤ k ∧ k < (d.now.length : Int) := ⟨by omega, by omega⟩
                have HE := Aside0.mk (read_in d k ck.1 ck.2)
                have b1 : decide (k < 0) = false := decide_eq_false ck0
                have b2 : decide ((d.now.length : Int) ≤ k) = false := decide_eq_false ck1
                clear ck0 ck1
                obtain ⟨adA, eA, -⟩ := Kd.at_string (Kd.R_reads' HA.out).2.2 k ck.1 ck.2
                subst eA
                have p0 := eq_true ck.1
                have p1 := eq_true ck.2
                have HCK := Aside0.mk ck
                clear ck
                go_wp2_with (first
                  | (go_at_call 29; with_reducible refine Calls.mono (st_Read' (show St w1 _ g own (d.atR i) from by repeat (first | exact HS.out | apply St.alloc | apply St.drewN | apply St.drew)) k ((atR_read d i k).trans HE.out) (atR_next d i (by have := HII.out; have := HN2.out; omega))) ?_; rintro e w5 ⟨rfl, h1, k1⟩; have n1_ := Aside0.mk (row_kp (by repeat (first | exact HA.out | apply Kd.R_alloc | apply Kd.R_drewN | apply Kd.R_drew)) HGA.out k1); have zk5 := (cell_same ((h1.old HB.out HG.out).block _ (World.block_lt_of_cell? _ _ zw))).trans zw; obtain ⟨ad5, e5, z5⟩ := Kd.at_string (Kd.R_reads' n1_.out).2.2 k HCK.out.1 HCK.out.2; injection e5 with e5; subst e5; clear HS HA k1; have HS := Aside0.mk h1; have HA := n1_; clear n1_ h1)
                  | (go_at_call 17; with_reducible refine Calls.mono (st_Reads' (n := (i : Int) + 1) (show St w1 _ g own (d.atR ((i : Int) + 1)) from by repeat (first | exact HS.out | apply St.alloc | apply St.drewN | apply St.drew)) rfl) ?_; rintro e w6 ⟨rfl, b1⟩; have n0_ := Aside0.mk (St.below (show St w1 _ g own (d.atR ((i : Int) + 1)) from by repeat (first | exact HS.out | apply St.alloc | apply St.drewN | apply St.drew)) b1); have n1_ := Aside0.mk (Kd.R_below (by repeat (first | exact HA.out | apply Kd.R_alloc | apply Kd.R_drewN | apply Kd.R_drew)) b1); clear HS HA b1; have HS := n0_; have HA := n1_; clear n0_ n1_)
                  | (go_at_call 15; with_reducible refine Calls.mono (st_Len' (n := (d.now.length : Int)) (show St w1 _ g own (d.atR ((i : Int) + 1)) from by repeat (first | exact HS.out | apply St.alloc | apply St.drewN | apply St.drew)) rfl) ?_; rintro e w6 ⟨rfl, b1⟩; have n0_ := Aside0.mk (St.below (show St w1 _ g own (d.atR ((i : Int) + 1)) from by repeat (first | exact HS.out | apply St.alloc | apply St.drewN | apply St.drew)) b1); have n1_ := Aside0.mk (Kd.R_below (by repeat (first | exact HA.out | apply Kd.R_alloc | apply Kd.R_drewN | apply Kd.R_drew)) b1); clear HS HA b1; have HS := n0_; have HA := n1_; clear n0_ n1_))
                go_roundg (N2 - i)
                case measure => have := HII.out; omega
                case rel => exact ⟨i + 1, by rw [wi]; rfl, ⟨by have := HII.out; have := HCI.out; omega, by have := HCI.out; omega⟩, ⟨by repeat (first | exact HS.out | apply St.alloc | apply St.drewN | apply St.drew)⟩, ⟨by repeat (first | exact HA.out | apply Kd.R_alloc | apply Kd.R_drewN | apply Kd.R_drew)⟩⟩
          · have ei : i = N2 := by omega
            rcases (show (l1.length : Int) ≤ (i : Int) ∨ ((i : Int) < (l1.length : Int) ∧ (30 : Int) ≤ (i : Int)) by omega) with c | c
            · have d1 : (i < l1.length) = False := eq_false (by omega)
              clear hi hn hc ci ei c
              have HNW := Aside0.mk (show (d.atR i).now = d.now from rfl)
              have HNL := Aside0.mk (show (d.atR i).now.length < 8796093022208 from by show d.now.length < _; have := HDL.out; omega)
              go_wp2_with (first
                | (go_at_call 19; with_reducible refine Calls.mono (st_All' (show St w1 _ g own (d.atR i) from by repeat (first | exact HS.out | apply St.alloc | apply St.drewN | apply St.drew)) HNL.out HNW.out) ?_; rintro e w6 ⟨vb, rfl, rb, b1⟩; have n0_ := Aside0.mk (St.below (show St w1 _ g own (d.atR i) from by repeat (first | exact HS.out | apply St.alloc | apply St.drewN | apply St.drew)) b1); have n1_ := Aside0.mk (Kd.R_below (by repeat (first | exact HA.out | apply Kd.R_alloc | apply Kd.R_drewN | apply Kd.R_drew)) b1); have HV := Aside0.mk rb; clear HS HA b1 rb; have HS := n0_; have HA := n1_; clear n0_ n1_)
                | (go_at_call 18; with_reducible refine Calls.mono (words_R HV.out (show Kd.R Kd.string 9 _ ba (fun _ => True) (.slice Aa d.now.length ca) d.now from by repeat (first | exact HA.out | apply Kd.R_alloc | apply Kd.R_drewN | apply Kd.R_drew)) (by have := HDL.out; omega)) ?_; rintro e w7 ⟨rfl, b1⟩; have n0_ := Aside0.mk (St.below (show St w1 _ g own (d.atR i) from by repeat (first | exact HS.out | apply St.alloc | apply St.drewN | apply St.drew)) b1); clear HS HA HV b1; have HS := n0_; clear n0_)
                | (go_at_call 13; with_reducible refine Calls.mono (FC.out _) ?_; rintro e w8 ⟨rfl, b1⟩; have n0_ := Aside0.mk (St.below (show St w1 _ g own (d.atR i) from by repeat (first | exact HS.out | apply St.alloc | apply St.drewN | apply St.drew)) b1); clear HS b1; have HS := n0_; clear n0_))
              go_ret
              exact ⟨by first | rfl | (simp; done), St.old (show St w1 _ g own (d.atR i) from by repeat (first | exact HS.out | apply St.alloc | apply St.drewN | apply St.drew)) HB.out HG.out⟩
            · have d1 : (i < l1.length) = True := eq_true (by omega)
              have d2 : decide ((i : Int) < 30) = false := decide_eq_false (by omega)
              clear hi hn hc ci ei c
              have HNW := Aside0.mk (show (d.atR i).now = d.now from rfl)
              have HNL := Aside0.mk (show (d.atR i).now.length < 8796093022208 from by show d.now.length < _; have := HDL.out; omega)
              go_wp2_with (first
                | (go_at_call 19; with_reducible refine Calls.mono (st_All' (show St w1 _ g own (d.atR i) from by repeat (first | exact HS.out | apply St.alloc | apply St.drewN | apply St.drew)) HNL.out HNW.out) ?_; rintro e w6 ⟨vb, rfl, rb, b1⟩; have n0_ := Aside0.mk (St.below (show St w1 _ g own (d.atR i) from by repeat (first | exact HS.out | apply St.alloc | apply St.drewN | apply St.drew)) b1); have n1_ := Aside0.mk (Kd.R_below (by repeat (first | exact HA.out | apply Kd.R_alloc | apply Kd.R_drewN | apply Kd.R_drew)) b1); have HV := Aside0.mk rb; clear HS HA b1 rb; have HS := n0_; have HA := n1_; clear n0_ n1_)
                | (go_at_call 18; with_reducible refine Calls.mono (words_R HV.out (show Kd.R Kd.string 9 _ ba (fun _ => True) (.slice Aa d.now.length ca) d.now from by repeat (first | exact HA.out | apply Kd.R_alloc | apply Kd.R_drewN | apply Kd.R_drew)) (by have := HDL.out; omega)) ?_; rintro e w7 ⟨rfl, b1⟩; have n0_ := Aside0.mk (St.below (show St w1 _ g own (d.atR i) from by repeat (first | exact HS.out | apply St.alloc | apply St.drewN | apply St.drew)) b1); clear HS HA HV b1; have HS := n0_; clear n0_)
                | (go_at_call 13; with_reducible refine Calls.mono (FC.out _) ?_; rintro e w8 ⟨rfl, b1⟩; have n0_ := Aside0.mk (St.below (show St w1 _ g own (d.atR i) from by repeat (first | exact HS.out | apply St.alloc | apply St.drewN | apply St.drew)) b1); clear HS b1; have HS := n0_; clear n0_))
              go_ret
              exact ⟨by first | rfl | (simp; done), St.old (show St w1 _ g own (d.atR i) from by repeat (first | exact HS.out | apply St.alloc | apply St.drewN | apply St.drew)) HB.out HG.out⟩
      · have d1 : (j < l0.length) = True := eq_true (by omega)
        have d2 : decide ((j : Int) < 12) = false := decide_eq_false (by omega)
        have HDL := Aside0.mk (show d.now.length ≤ 8 from by have := HI.out.ok.nlen; have := HI.out.room; omega)
        clear hj hn hc c cj ej
        go_wp2_with (first
          | (go_at_call 19; with_reducible refine Calls.mono (st_All (show St w1 _ g own d from by repeat (first | exact HS.out | apply St.alloc | apply St.drewN | apply St.drew)) (by have := HDL.out; omega)) ?_; rintro e w2 ⟨va, rfl, ra, b1⟩; have HGA := Aside0.mk (DkAt.lt (show DkAt _ g own d from (show St w1 _ g own d from by repeat (first | exact HS.out | apply St.alloc | apply St.drewN | apply St.drew)).dk)); have n0_ := Aside0.mk (St.below (show St w1 _ g own d from by repeat (first | exact HS.out | apply St.alloc | apply St.drewN | apply St.drew)) b1); obtain ⟨Aa, ca, rfl⟩ := Kd.R_slice ra; have HA := Aside0.mk ra; clear HS b1 ra; have HS := n0_; clear n0_)
          | (go_at_call 15; with_reducible refine Calls.mono (st_Len (show St w1 _ g own d from by repeat (first | exact HS.out | apply St.alloc | apply St.drewN | apply St.drew))) ?_; rintro e w3 ⟨rfl, b1⟩; have n0_ := Aside0.mk (St.below (show St w1 _ g own d from by repeat (first | exact HS.out | apply St.alloc | apply St.drewN | apply St.drew)) b1); have n1_ := Aside0.mk (Kd.R_below (by repeat (first | exact HA.out | apply Kd.R_alloc | apply Kd.R_drewN | apply Kd.R_drew)) b1); clear HS HA b1; have HS := n0_; have HA := n1_; clear n0_ n1_)
          | (go_at_call 17; with_reducible refine Calls.mono (st_Reads' (show St w1 _ g own d from by repeat (first | exact HS.out | apply St.alloc | apply St.drewN | apply St.drew)) HZ.out) ?_; rintro e w4 ⟨rfl, b1⟩; have n0_ := Aside0.mk (St.below (show St w1 _ g own d from by repeat (first | exact HS.out | apply St.alloc | apply St.drewN | apply St.drew)) b1); have n1_ := Aside0.mk (Kd.R_below (by repeat (first | exact HA.out | apply Kd.R_alloc | apply Kd.R_drewN | apply Kd.R_drew)) b1); clear HS HA b1; have HS := n0_; have HA := n1_; clear n0_ n1_))
        have HS0 : Aside0 (St w1 w4 g own (d.atR 0)) := by rw [atR_zero d HZ.out]; exact HS
        clear HS
        have HS := HS0
        clear HS0
        generalize wr.heap.size = ba at HGA HA
        obtain ⟨N2, hN2⟩ : ∃ N2 : Nat, N2 = min l1.length 30 := ⟨_, rfl⟩
        have HN2 := Aside0.mk hN2
        clear hN2 d1
        go_loopg [10] (N2 + 1) (fun kq v w' => ∃ (i : Nat), v = .int .i64 (i : Int) ∧ Aside0 (i + kq = N2 + 1 ∧ i ≤ N2) ∧ Aside0 (St w1 w' g own (d.atR i)) ∧ Aside0 (Kd.R Kd.string 9 w' ba (fun _ => True) (.slice Aa d.now.length ca) d.now))
        case atStart => exact ⟨0, rfl, ⟨by omega, by omega⟩, ⟨by repeat (first | exact HS.out | apply St.alloc | apply St.drewN | apply St.drew)⟩, ⟨by repeat (first | exact HA.out | apply Kd.R_alloc | apply Kd.R_drewN | apply Kd.R_drew)⟩⟩
        case round =>
          clear HS HA
          obtain ⟨i, rfl, HII, HS, HA⟩ := hrel
          have hi := HII.out
          have hn := HN2.out
          have hc := HC.out
          by_cases ci : i < N2
          · have d1 : decide ((i : Int) < (l1.length : Int)) = true := decide_eq_true (by omega)
            have d2 : decide ((i : Int) < 30) = true := decide_eq_true (by omega)
            have q0 : ((0 : Int) ≤ (i : Int)) = True := eq_true (by omega)
            have q1 : ((i : Int) < (l1.length : Int)) = True := eq_true (by omega)
            have wi : wrap64 ((i : Int) + 1) = (i : Int) + 1 := by unfold wrap64; omega
            obtain ⟨ad, ea, zw⟩ := Kd.at_int HR1.out (i : Int) (by omega) (by omega)
            subst ea
            rw [Int.toNat_natCast] at zw
            generalize rd l1 (i : Int) = k at zw
            have zk : wr.cell? (ad.add i) = some (.int .i64 k) := (cell_same ((HS.out.old HB.out HG.out).block _ (World.block_lt_of_cell? _ _ zw))).trans zw
            have HCI := Aside0.mk ci
            clear hi hn hc ci
            by_cases ck0 : k < 0
            · have ck : k < 0 ∨ (d.now.length : Int) ≤ k := .inl ck0
              have HE := Aside0.mk (read_out d k ck)
              have b1 : decide (k < 0) = true := decide_eq_true ck0
              clear ck0
              clear ck
              go_wp2_with (first
                | (go_at_call 29; with_reducible refine Calls.mono (st_Read' (show St w1 _ g own (d.atR i) from by repeat (first | exact HS.out | apply St.alloc | apply St.drewN | apply St.drew)) k ((atR_read d i k).trans HE.out) (atR_next d i (by have := HII.out; have := HN2.out; omega))) ?_; rintro e w5 ⟨rfl, h1, k1⟩; have n1_ := Aside0.mk (row_kp (by repeat (first | exact HA.out | apply Kd.R_alloc | apply Kd.R_drewN | apply Kd.R_drew)) HGA.out k1); have zk5 := (cell_same ((h1.old HB.out HG.out).block _ (World.block_lt_of_cell? _ _ zw))).trans zw; clear HS HA k1; have HS := Aside0.mk h1; have HA := n1_; clear n1_ h1)
                | (go_at_call 17; with_reducible refine Calls.mono (st_Reads' (n := (i : Int) + 1) (show St w1 _ g own (d.atR ((i : Int) + 1)) from by repeat (first | exact HS.out | apply St.alloc | apply St.drewN | apply St.drew)) rfl) ?_; rintro e w6 ⟨rfl, b1⟩; have n0_ := Aside0.mk (St.below (show St w1 _ g own (d.atR ((i : Int) + 1)) from by repeat (first | exact HS.out | apply St.alloc | apply St.drewN | apply St.drew)) b1); have n1_ := Aside0.mk (Kd.R_below (by repeat (first | exact HA.out | apply Kd.R_alloc | apply Kd.R_drewN | apply Kd.R_drew)) b1); clear HS HA b1; have HS := n0_; have HA := n1_; clear n0_ n1_)
                | (go_at_call 15; with_reducible refine Calls.mono (st_Len' (n := (d.now.length : Int)) (show St w1 _ g own (d.atR ((i : Int) + 1)) from by repeat (first | exact HS.out | apply St.alloc | apply St.drewN | apply St.drew)) rfl) ?_; rintro e w6 ⟨rfl, b1⟩; have n0_ := Aside0.mk (St.below (show St w1 _ g own (d.atR ((i : Int) + 1)) from by repeat (first | exact HS.out | apply St.alloc | apply St.drewN | apply St.drew)) b1); have n1_ := Aside0.mk (Kd.R_below (by repeat (first | exact HA.out | apply Kd.R_alloc | apply Kd.R_drewN | apply Kd.R_drew)) b1); clear HS HA b1; have HS := n0_; have HA := n1_; clear n0_ n1_))
              go_roundg (N2 - i)
              case measure => have := HII.out; omega
              case rel => exact ⟨i + 1, by rw [wi]; rfl, ⟨by have := HII.out; have := HCI.out; omega, by have := HCI.out; omega⟩, ⟨by repeat (first | exact HS.out | apply St.alloc | apply St.drewN | apply St.drew)⟩, ⟨by repeat (first | exact HA.out | apply Kd.R_alloc | apply Kd.R_drewN | apply Kd.R_drew)⟩⟩
            · by_cases ck1 : (d.now.length : Int) ≤ k
              · have ck : k < 0 ∨ (d.now.length : Int) ≤ k := .inr ck1
                have HE := Aside0.mk (read_out d k ck)
                have b1 : decide (k < 0) = false := decide_eq_false ck0
                have b2 : decide ((d.now.length : Int) ≤ k) = true := decide_eq_true ck1
                clear ck0 ck1
                clear ck
                go_wp2_with (first
                  | (go_at_call 29; with_reducible refine Calls.mono (st_Read' (show St w1 _ g own (d.atR i) from by repeat (first | exact HS.out | apply St.alloc | apply St.drewN | apply St.drew)) k ((atR_read d i k).trans HE.out) (atR_next d i (by have := HII.out; have := HN2.out; omega))) ?_; rintro e w5 ⟨rfl, h1, k1⟩; have n1_ := Aside0.mk (row_kp (by repeat (first | exact HA.out | apply Kd.R_alloc | apply Kd.R_drewN | apply Kd.R_drew)) HGA.out k1); have zk5 := (cell_same ((h1.old HB.out HG.out).block _ (World.block_lt_of_cell? _ _ zw))).trans zw; clear HS HA k1; have HS := Aside0.mk h1; have HA := n1_; clear n1_ h1)
                  | (go_at_call 17; with_reducible refine Calls.mono (st_Reads' (n := (i : Int) + 1) (show St w1 _ g own (d.atR ((i : Int) + 1)) from by repeat (first | exact HS.out | apply St.alloc | apply St.drewN | apply St.drew)) rfl) ?_; rintro e w6 ⟨rfl, b1⟩; have n0_ := Aside0.mk (St.below (show St w1 _ g own (d.atR ((i : Int) + 1)) from by repeat (first | exact HS.out | apply St.alloc | apply St.drewN | apply St.drew)) b1); have n1_ := Aside0.mk (Kd.R_below (by repeat (first | exact HA.out | apply Kd.R_alloc | apply Kd.R_drewN | apply Kd.R_drew)) b1); clear HS HA b1; have HS := n0_; have HA := n1_; clear n0_ n1_)
                  | (go_at_call 15; with_reducible refine Calls.mono (st_Len' (n := (d.now.length : Int)) (show St w1 _ g own (d.atR ((i : Int) + 1)) from by repeat (first | exact HS.out | apply St.alloc | apply St.drewN | apply St.drew)) rfl) ?_; rintro e w6 ⟨rfl, b1⟩; have n0_ := Aside0.mk (St.below (show St w1 _ g own (d.atR ((i : Int) + 1)) from by repeat (first | exact HS.out | apply St.alloc | apply St.drewN | apply St.drew)) b1); have n1_ := Aside0.mk (Kd.R_below (by repeat (first | exact HA.out | apply Kd.R_alloc | apply Kd.R_drewN | apply Kd.R_drew)) b1); clear HS HA b1; have HS := n0_; have HA := n1_; clear n0_ n1_))
                go_roundg (N2 - i)
                case measure => have := HII.out; omega
                case rel => exact ⟨i + 1, by rw [wi]; rfl, ⟨by have := HII.out; have := HCI.out; omega, by have := HCI.out; omega⟩, ⟨by repeat (first | exact HS.out | apply St.alloc | apply St.drewN | apply St.drew)⟩, ⟨by repeat (first | exact HA.out | apply Kd.R_alloc | apply Kd.R_drewN | apply Kd.R_drew)⟩⟩
              · have ck : 0 ≤ k ∧ k < (d.now.length : Int) := ⟨by omega, by omega⟩
                have HE := Aside0.mk (read_in d k ck.1 ck.2)
                have b1 : decide (k < 0) = false := decide_eq_false ck0
                have b2 : decide ((d.now.length : Int) ≤ k) = false := decide_eq_false ck1
                clear ck0 ck1
                obtain ⟨adA, eA, -⟩ := Kd.at_string (Kd.R_reads' HA.out).2.2 k ck.1 ck.2
                subst eA
                have p0 := eq_true ck.1
                have p1 := eq_true ck.2
                have HCK := Aside0.mk ck
                clear ck
                go_wp2_with (first
                  | (go_at_call 29; with_reducible refine Calls.mono (st_Read' (show St w1 _ g own (d.atR i) from by repeat (first | exact HS.out | apply St.alloc | apply St.drewN | apply St.drew)) k ((atR_read d i k).trans HE.out) (atR_next d i (by have := HII.out; have := HN2.out; omega))) ?_; rintro e w5 ⟨rfl, h1, k1⟩; have n1_ := Aside0.mk (row_kp (by repeat (first | exact HA.out | apply Kd.R_alloc | apply Kd.R_drewN | apply Kd.R_drew)) HGA.out k1); have zk5 := (cell_same ((h1.old HB.out HG.out).block _ (World.block_lt_of_cell? _ _ zw))).trans zw; obtain ⟨ad5, e5, z5⟩ := Kd.at_string (Kd.R_reads' n1_.out).2.2 k HCK.out.1 HCK.out.2; injection e5 with e5; subst e5; clear HS HA k1; have HS := Aside0.mk h1; have HA := n1_; clear n1_ h1)
                  | (go_at_call 17; with_reducible refine Calls.mono (st_Reads' (n := (i : Int) + 1) (show St w1 _ g own (d.atR ((i : Int) + 1)) from by repeat (first | exact HS.out | apply St.alloc | apply St.drewN | apply St.drew)) rfl) ?_; rintro e w6 ⟨rfl, b1⟩; have n0_ := Aside0.mk (St.below (show St w1 _ g own (d.atR ((i : Int) + 1)) from by repeat (first | exact HS.out | apply St.alloc | apply St.drewN | apply St.drew)) b1); have n1_ := Aside0.mk (Kd.R_below (by repeat (first | exact HA.out | apply Kd.R_alloc | apply Kd.R_drewN | apply Kd.R_drew)) b1); clear HS HA b1; have HS := n0_; have HA := n1_; clear n0_ n1_)
                  | (go_at_call 15; with_reducible refine Calls.mono (st_Len' (n := (d.now.length : Int)) (show St w1 _ g own (d.atR ((i : Int) + 1)) from by repeat (first | exact HS.out | apply St.alloc | apply St.drewN | apply St.drew)) rfl) ?_; rintro e w6 ⟨rfl, b1⟩; have n0_ := Aside0.mk (St.below (show St w1 _ g own (d.atR ((i : Int) + 1)) from by repeat (first | exact HS.out | apply St.alloc | apply St.drewN | apply St.drew)) b1); have n1_ := Aside0.mk (Kd.R_below (by repeat (first | exact HA.out | apply Kd.R_alloc | apply Kd.R_drewN | apply Kd.R_drew)) b1); clear HS HA b1; have HS := n0_; have HA := n1_; clear n0_ n1_))
                go_roundg (N2 - i)
                case measure => have := HII.out; omega
                case rel => exact ⟨i + 1, by rw [wi]; rfl, ⟨by have := HII.out; have := HCI.out; omega, by have := HCI.out; omega⟩, ⟨by repeat (first | exact HS.out | apply St.alloc | apply St.drewN | apply St.drew)⟩, ⟨by repeat (first | exact HA.out | apply Kd.R_alloc | apply Kd.R_drewN | apply Kd.R_drew)⟩⟩
          · have ei : i = N2 := by omega
            rcases (show (l1.length : Int) ≤ (i : Int) ∨ ((i : Int) < (l1.length : Int) ∧ (30 : Int) ≤ (i : Int)) by omega) with c | c
            · have d1 : (i < l1.length) = False := eq_false (by omega)
              clear hi hn hc ci ei c
              have HNW := Aside0.mk (show (d.atR i).now = d.now from rfl)
              have HNL := Aside0.mk (show (d.atR i).now.length < 8796093022208 from by show d.now.length < _; have := HDL.out; omega)
              go_wp2_with (first
                | (go_at_call 19; with_reducible refine Calls.mono (st_All' (show St w1 _ g own (d.atR i) from by repeat (first | exact HS.out | apply St.alloc | apply St.drewN | apply St.drew)) HNL.out HNW.out) ?_; rintro e w6 ⟨vb, rfl, rb, b1⟩; have n0_ := Aside0.mk (St.below (show St w1 _ g own (d.atR i) from by repeat (first | exact HS.out | apply St.alloc | apply St.drewN | apply St.drew)) b1); have n1_ := Aside0.mk (Kd.R_below (by repeat (first | exact HA.out | apply Kd.R_alloc | apply Kd.R_drewN | apply Kd.R_drew)) b1); have HV := Aside0.mk rb; clear HS HA b1 rb; have HS := n0_; have HA := n1_; clear n0_ n1_)
                | (go_at_call 18; with_reducible refine Calls.mono (words_R HV.out (show Kd.R Kd.string 9 _ ba (fun _ => True) (.slice Aa d.now.length ca) d.now from by repeat (first | exact HA.out | apply Kd.R_alloc | apply Kd.R_drewN | apply Kd.R_drew)) (by have := HDL.out; omega)) ?_; rintro e w7 ⟨rfl, b1⟩; have n0_ := Aside0.mk (St.below (show St w1 _ g own (d.atR i) from by repeat (first | exact HS.out | apply St.alloc | apply St.drewN | apply St.drew)) b1); clear HS HA HV b1; have HS := n0_; clear n0_)
                | (go_at_call 13; with_reducible refine Calls.mono (FC.out _) ?_; rintro e w8 ⟨rfl, b1⟩; have n0_ := Aside0.mk (St.below (show St w1 _ g own (d.atR i) from by repeat (first | exact HS.out | apply St.alloc | apply St.drewN | apply St.drew)) b1); clear HS b1; have HS := n0_; clear n0_))
              go_ret
              exact ⟨by first | rfl | (simp; done), St.old (show St w1 _ g own (d.atR i) from by repeat (first | exact HS.out | apply St.alloc | apply St.drewN | apply St.drew)) HB.out HG.out⟩
            · have d1 : (i < l1.length) = True := eq_true (by omega)
              have d2 : decide ((i : Int) < 30) = false := decide_eq_false (by omega)
              clear hi hn hc ci ei c
              have HNW := Aside0.mk (show (d.atR i).now = d.now from rfl)
              have HNL := Aside0.mk (show (d.atR i).now.length < 8796093022208 from by show d.now.length < _; have := HDL.out; omega)
              go_wp2_with (first
                | (go_at_call 19; with_reducible refine Calls.mono (st_All' (show St w1 _ g own (d.atR i) from by repeat (first | exact HS.out | apply St.alloc | apply St.drewN | apply St.drew)) HNL.out HNW.out) ?_; rintro e w6 ⟨vb, rfl, rb, b1⟩; have n0_ := Aside0.mk (St.below (show St w1 _ g own (d.atR i) from by repeat (first | exact HS.out | apply St.alloc | apply St.drewN | apply St.drew)) b1); have n1_ := Aside0.mk (Kd.R_below (by repeat (first | exact HA.out | apply Kd.R_alloc | apply Kd.R_drewN | apply Kd.R_drew)) b1); have HV := Aside0.mk rb; clear HS HA b1 rb; have HS := n0_; have HA := n1_; clear n0_ n1_)
                | (go_at_call 18; with_reducible refine Calls.mono (words_R HV.out (show Kd.R Kd.string 9 _ ba (fun _ => True) (.slice Aa d.now.length ca) d.now from by repeat (first | exact HA.out | apply Kd.R_alloc | apply Kd.R_drewN | apply Kd.R_drew)) (by have := HDL.out; omega)) ?_; rintro e w7 ⟨rfl, b1⟩; have n0_ := Aside0.mk (St.below (show St w1 _ g own (d.atR i) from by repeat (first | exact HS.out | apply St.alloc | apply St.drewN | apply St.drew)) b1); clear HS HA HV b1; have HS := n0_; clear n0_)
                | (go_at_call 13; with_reducible refine Calls.mono (FC.out _) ?_; rintro e w8 ⟨rfl, b1⟩; have n0_ := Aside0.mk (St.below (show St w1 _ g own (d.atR i) from by repeat (first | exact HS.out | apply St.alloc | apply St.drewN | apply St.drew)) b1); clear HS b1; have HS := n0_; clear n0_))
              go_ret
              exact ⟨by first | rfl | (simp; done), St.old (show St w1 _ g own (d.atR i) from by repeat (first | exact HS.out | apply St.alloc | apply St.drewN | apply St.drew)) HB.out HG.out⟩
end Go.Proofs.Ytnmdpjbpbiempaa.P
