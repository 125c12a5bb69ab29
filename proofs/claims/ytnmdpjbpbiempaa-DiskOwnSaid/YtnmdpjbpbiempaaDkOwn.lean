/- What is proved here: what the law DiskOwn answers, by its walk. Conditions: as the theorem names them. -/
import Derived.Test.YtnmdpjbpbiempaaDkO
import Derived.Test.YtnmdpjbpbiempaaDkL2
set_option linter.unusedVariables false
set_option linter.unusedSimpArgs false
namespace Go.Proofs.Ytnmdpjbpbiempaa.P
open Go.RowKit Go.Proofs.YtnmdpjbpbiempaaW.PrintWords Go.Proofs.YtnmdpjbpbiempaaW.PrintLast Go.Proofs.YtnmdpjbpbiempaaW.PrintMore
theorem new8o (w : World) : Calls Try.prog 23 #[.int .i64 128, .int .i64 8] w fun e w' => ∃ g, w.heap.size ≤ g ∧ e = .returned (.tuple #[.pointer (some ⟨g, 0, none⟩), .int .i64 0]) ∧ DkAt w' g none (fromD 128 8 ⟨#[]⟩ (fun _ => True)) ∧ Below w.heap.size w w' := dk_New w 128 8 (fun _ => True) (fun _ _ => trivial) (by decide +kernel)
theorem putL_get0 (p : Int) (l : List ByteArray) (s : ByteArray) : rdOf ByteArray.empty (putL p l 0 s) 0 = s := by
  unfold rdOf putL
  rw [List.getD_eq_getElem?_getD, show (0 : Int).toNat = 0 from rfl, List.getElem?_set_self (by rw [List.length_append, List.length_replicate]; omega)]
  rfl
theorem own_last {n : Nat} {d : Dk} (h : Inv 8 n d) (hn : n < 100000) (hr : d.reads = 0) (c : Int) : (d.writeE 0 (pageB c) = 0 ∧ (d.write 0 (pageB c)).read 0 = (pageB c, 0)) ∧ (d.write 0 (pageB c)).readD.reads = 1 := by
  have q := h.write hn (i := 0) (s := pageB c) (by decide) (by decide) (pageB_size c)
  refine ⟨⟨q.1, ?_⟩, ?_⟩
  · rw [read_in _ 0 (by decide) (by rw [q.2.2.2.2.1, putL_len]; omega), q.2.2.2.2.1, putL_get0]
  · show wrap64 ((d.write 0 (pageB c)).reads + 1) = 1
    rw [q.2.2.1, hr]
    exact w64 (by decide) (by decide)
set_option maxHeartbeats 2000000 in
set_option maxRecDepth 100000 in
theorem own_walk (fixedC : ∀ w, Calls Try.prog 13 #[] w fun e w' => e = .returned (.bool true) ∧ Below w.heap.size w w') (w : World) (A0 : Option Addr) (c0 : Nat) (l0 : List Wr) (cc : Int) (hr0 : Kd.C kWr w A0 l0.length l0) (hc0 : l0.length ≤ c0) (hf : ∀ x ∈ l0, WrOk x) (hl0 : l0.length < 9223372036854775807) :
    Calls Try.prog 7 #[.slice A0 l0.length c0, .int .u8 cc] w fun e w' => e = .returned (.bool true) ∧ Below w.heap.size w w' := by
  have HR0 := Aside0.mk hr0
  have HC := Aside0.mk (show l0.length ≤ c0 ∧ l0.length < 9223372036854775807 from ⟨hc0, hl0⟩)
  have HF := Aside0.mk hf
  have FC := Aside0.mk fixedC
  clear hr0 hc0 hl0 hf fixedC
  go_enter Try.func7, Try.ntmps7
  go_wp2_with (first
    | (go_at_call 23; with_reducible refine Calls.mono (new8o _) ?_; rintro e w1 ⟨g, hg, rfl, hd, b1⟩; have HG := Aside0.mk (show w.heap.size ≤ g by simpa using hg); have HB := Aside0.mk (show Below w.heap.size w w1 from below_step (by repeat (first | exact Below.refl _ _ | apply pw_below_drewN | apply below_drew1)) b1); have HS := Aside0.mk (St.init hd); clear hd hg b1))
  obtain ⟨N, hN⟩ : ∃ N : Nat, N = min l0.length 12 := ⟨_, rfl⟩
  have HN := Aside0.mk hN
  clear hN
  have HI := Aside0.mk (Inv.init 8 (fun _ => True) (by decide) (by decide))
  go_loopg [7] (N + 1) (fun kq v w' => ∃ (j : Nat) (own : Option Nat) (d : Dk), v = .int .i64 (j : Int) ∧ Aside0 (j + kq = N + 1 ∧ j ≤ N) ∧ Aside0 (St w1 w' g own d) ∧ Aside0 (Inv 8 j d) ∧ Aside0 (d.reads = 0))
  case atStart => exact ⟨0, none, fromD 128 8 ⟨#[]⟩ (fun _ => True), rfl, ⟨by omega, by omega⟩, ⟨by repeat (first | exact HS.out | apply St.alloc | apply St.drewN | apply St.drew)⟩, HI, ⟨rfl⟩⟩
  case round =>
    clear HI HS
    obtain ⟨j, own, d, rfl, HJ, HS, HI, HZ⟩ := hrel
    have hj := HJ.out
    have hn := HN.out
    have hc := HC.out
    by_cases cj : j < N
    · have d1 : decide ((j : Int) < (l0.length : Int)) = true := decide_eq_true (by omega)
      have d2 : decide ((j : Int) < 12) = true := decide_eq_true (by omega)
      have q0 : ((0 : Int) ≤ (j : Int)) = True := eq_true (by omega)
      have q1 : ((j : Int) < (l0.length : Int)) = True := eq_true (by omega)
      have wj : wrap64 ((j : Int) + 1) = ((j + 1 : Nat) : Int) := by unfold wrap64; omega
      obtain ⟨ad, ea, zw0, zw1⟩ := at_Wr HR0.out (j : Int) (by omega) (by omega)
      subst ea
      rw [Int.toNat_natCast] at zw0 zw1
      have HX := Aside0.mk (rd_Wr_ok HF.out (j : Int))
      generalize rd_Wr l0 (j : Int) = x at zw0 zw1 HX
      have HCJ := Aside0.mk cj
      clear hj hn hc cj
      go_wp2
      obtain ⟨wx, im0, im1⟩ := im8 8 HX.out.1 (by decide)
      obtain ⟨im, him⟩ : ∃ im, x.f0.tmod 8 = im := ⟨_, rfl⟩
      rw [him] at im0 im1
      have hb1 : Below w.heap.size w wr := HS.out.old HB.out HG.out
      have cw : ∀ {W : World}, Below w.heap.size w W → W.cell? (ad.add (j * 2)) = some (.int .u8 x.f0) ∧ W.cell? ⟨(ad.add (j * 2)).block, (ad.add (j * 2)).off + 1, none⟩ = some (.int .u8 x.f1) := fun {W} hb => ⟨(cell_same (hb.block _ (World.block_lt_of_cell? _ _ zw0))).trans zw0, (cell_same (hb.block _ (World.block_lt_of_cell? _ _ zw1))).trans zw1⟩
      have hwr := HI.out.write (i := im) (s := pageB x.f1) (by have := HJ.out; have := HN.out; omega) im0 im1 (pageB_size _)
      refine start_ (n := 16) (S := fun w' => w'.cell? (ad.add (j * 2)) = some (.int .u8 x.f0) ∧ w'.cell? ⟨(ad.add (j * 2)).block, (ad.add (j * 2)).off + 1, none⟩ = some (.int .u8 x.f1)) (ds := []) #[false, false, false, false, false, false, false, false, false, false, false, false, false, false, false, false] (by kernel_rfl) rfl rfl (cw (W := wr.drew) (below_drew1 hb1)) (fun hHeld => ?_)
      refine pure_ (i := 0) (N := some 34) (v := ?_) (a' := ?_) #[true, false, false, false, false, false, false, false, false, false, false, false, false, false, false, false] rfl rfl (by kernel_rfl) (fun _ _ _ h => h) (Or.inl ⟨by rfl, ?_⟩) ?_ ?_
      rotate_left
      · intro w'
        go_simp
        with_reducible rfl
      rotate_left
      · simp only [Act.put, List.setIfInBounds_toArray, List.set_cons_zero, List.set_cons_succ, i64_w, i32_w]
        rfl
      refine pure_ (i := 1) (N := some 35) (v := ?_) (a' := ?_) #[true, true, false, false, false, false, false, false, false, false, false, false, false, false, false, false] rfl rfl (by kernel_rfl) (fun _ _ _ h => h) (Or.inl ⟨by rfl, ?_⟩) ?_ ?_
      rotate_left
      · intro w'
        go_simp
        with_reducible rfl
      rotate_left
      · simp only [Act.put, List.setIfInBounds_toArray, List.set_cons_zero, List.set_cons_succ, i64_w, i32_w]
        rfl
      refine pure_ (i := 2) (N := some 36) (v := ?_) (a' := ?_) #[true, true, true, false, false, false, false, false, false, false, false, false, false, false, false, false] rfl rfl (by kernel_rfl) (fun _ _ _ h => h) (Or.inl ⟨by rfl, ?_⟩) ?_ ?_
      rotate_left
      · intro w'
        go_simp
        with_reducible rfl
      rotate_left
      · simp only [Act.put, List.setIfInBounds_toArray, List.set_cons_zero, List.set_cons_succ, i64_w, i32_w]
        rfl
      refine pure_ (i := 3) (N := some 37) (v := ?_) (a' := ?_) #[true, true, true, true, false, false, false, false, false, false, false, false, false, false, false, false] rfl rfl (by kernel_rfl) (fun _ _ _ h => h) (Or.inl ⟨by rfl, ?_⟩) ?_ ?_
      rotate_left
      · intro w'
        go_simp
        with_reducible rfl
      rotate_left
      · simp only [Act.put, List.setIfInBounds_toArray, List.set_cons_zero, List.set_cons_succ, i64_w, i32_w]
        rfl
      refine pure_ (i := 4) (N := some 38) (v := ?_) (a' := ?_) #[true, true, true, true, true, false, false, false, false, false, false, false, false, false, false, false] rfl rfl (by kernel_rfl) (fun _ _ _ h => h) (Or.inl ⟨by rfl, ?_⟩) ?_ ?_
      rotate_left
      · intro w'
        go_simp
        with_reducible rfl
      rotate_left
      · simp only [Act.put, List.setIfInBounds_toArray, List.set_cons_zero, List.set_cons_succ, i64_w, i32_w]
        rfl
      refine take_ (i := 5) (N := some 39) (v := ?_) (a' := ?_) #[true, true, true, true, true, true, false, false, false, false, false, false, false, false, false, false] rfl rfl (by kernel_rfl) (fun _ _ _ h => h) (Or.inl ⟨by rfl, ?_⟩) hHeld ?_ ?_
      rotate_left
      · rintro w' ⟨s0, s1⟩
        go_simp
        with_reducible rfl
      rotate_left
      · simp only [Act.put, List.setIfInBounds_toArray, List.set_cons_zero, List.set_cons_succ, i64_w, i32_w]
        rfl
      refine pure_ (i := 6) (N := some 40) (v := ?_) (a' := ?_) #[true, true, true, true, true, true, true, false, false, false, false, false, false, false, false, false] rfl rfl (by kernel_rfl) (fun _ _ _ h => h) (Or.inl ⟨by rfl, ?_⟩) ?_ ?_
      rotate_left
      · intro w'
        go_simp
        with_reducible rfl
      rotate_left
      · simp only [Act.put, List.setIfInBounds_toArray, List.set_cons_zero, List.set_cons_succ, i64_w, i32_w, wx]
        rfl
      refine pure_ (i := 7) (N := some 41) (v := ?_) (a' := ?_) #[true, true, true, true, true, true, true, true, false, false, false, false, false, false, false, false] rfl rfl (by kernel_rfl) (fun _ _ _ h => h) (Or.inl ⟨by rfl, ?_⟩) ?_ ?_
      rotate_left
      · intro w'
        go_simp
        with_reducible rfl
      rotate_left
      · simp only [Act.put, List.setIfInBounds_toArray, List.set_cons_zero, List.set_cons_succ, i64_w, i32_w, him]
        rfl
      refine pure_ (i := 8) (N := some 42) (v := ?_) (a' := ?_) #[true, true, true, true, true, true, true, true, true, false, false, false, false, false, false, false] rfl rfl (by kernel_rfl) (fun _ _ _ h => h) (Or.inl ⟨by rfl, ?_⟩) ?_ ?_
      rotate_left
      · intro w'
        go_simp
        with_reducible rfl
      rotate_left
      · simp only [Act.put, List.setIfInBounds_toArray, List.set_cons_zero, List.set_cons_succ, i64_w, i32_w]
        rfl
      refine pure_ (i := 9) (N := some 43) (v := ?_) (a' := ?_) #[true, true, true, true, true, true, true, true, true, true, false, false, false, false, false, false] rfl rfl (by kernel_rfl) (fun _ _ _ h => h) (Or.inl ⟨by rfl, ?_⟩) ?_ ?_
      rotate_left
      · intro w'
        go_simp
        with_reducible rfl
      rotate_left
      · simp only [Act.put, List.setIfInBounds_toArray, List.set_cons_zero, List.set_cons_succ, i64_w, i32_w]
        rfl
      refine pure_ (i := 10) (N := some 44) (v := ?_) (a' := ?_) #[true, true, true, true, true, true, true, true, true, true, true, false, false, false, false, false] rfl rfl (by kernel_rfl) (fun _ _ _ h => h) (Or.inl ⟨by rfl, ?_⟩) ?_ ?_
      rotate_left
      · intro w'
        go_simp
        with_reducible rfl
      rotate_left
      · simp only [Act.put, List.setIfInBounds_toArray, List.set_cons_zero, List.set_cons_succ, i64_w, i32_w]
        rfl
      refine pure_ (i := 11) (N := some 45) (v := ?_) (a' := ?_) #[true, true, true, true, true, true, true, true, true, true, true, true, false, false, false, false] rfl rfl (by kernel_rfl) (fun _ _ _ h => h) (Or.inl ⟨by rfl, ?_⟩) ?_ ?_
      rotate_left
      · intro w'
        go_simp
        with_reducible rfl
      rotate_left
      · simp only [Act.put, List.setIfInBounds_toArray, List.set_cons_zero, List.set_cons_succ, i64_w, i32_w]
        rfl
      refine take_ (i := 12) (N := some 46) (v := ?_) (a' := ?_) #[true, true, true, true, true, true, true, true, true, true, true, true, true, false, false, false] rfl rfl (by kernel_rfl) (fun _ _ _ h => h) (Or.inl ⟨by rfl, ?_⟩) hHeld ?_ ?_
      rotate_left
      · rintro w' ⟨s0, s1⟩
        go_simp
        with_reducible rfl
      rotate_left
      · simp only [Act.put, List.setIfInBounds_toArray, List.set_cons_zero, List.set_cons_succ, i64_w, i32_w]
        rfl
      refine one_ (i := 13) (N := some 47) #[true, true, true, true, true, true, true, true, true, true, true, true, true, true, false, false] rfl rfl (by kernel_rfl) (by decide) (fun K hK => ?_)
      refine goes_ Try.func24 (by kernel_rfl) rfl #[.int .u8 x.f1] (by rfl) rfl rfl (by (try simp only [List.map_toArray, List.map_cons, List.map_nil]); first | done | rfl) ?_
      refine Calls.mono (page_calls x.f1 _) ?_
      rintro e w9 ⟨rfl, b9⟩
      have hS9 : St w1 w9 g own d := HS.out.drew.below b9
      refine ⟨_, rfl, ?_⟩
      refine hK.out _ _ (cw (hS9.old HB.out HG.out)) (fun hHeld => ?_)
      clear hK K
      refine norm_ (a' := ?_) ?_ ?_
      rotate_left
      · show Act.put _ (some 47) _ = _
        simp only [Act.put, List.setIfInBounds_toArray, List.set_cons_zero, List.set_cons_succ, i64_w, i32_w]
        rfl
      refine one_ (i := 14) (N := some 48) #[true, true, true, true, true, true, true, true, true, true, true, true, true, true, true, false] rfl rfl (by kernel_rfl) (by decide) (fun K hK => ?_)
      refine goes_ Try.func25 (by kernel_rfl) rfl #[.pointer (some ⟨g, 0, none⟩), .int .i64 im, .string (pageB x.f1)] (by rfl) rfl rfl (by (try simp only [List.map_toArray, List.map_cons, List.map_nil]); first | done | rfl) ?_
      refine Calls.mono (st_Write' hS9 im (pageB x.f1) HI.out.ok.few hwr.1 rfl) ?_
      rintro e w10 ⟨rfl, own1, h1, -⟩
      refine ⟨_, rfl, ?_⟩
      refine hK.out _ _ (cw (h1.old HB.out HG.out)) (fun hHeld => ?_)
      clear hK K
      refine norm_ (a' := ?_) ?_ ?_
      rotate_left
      · show Act.put _ (some 48) _ = _
        simp only [Act.put, List.setIfInBounds_toArray, List.set_cons_zero, List.set_cons_succ, i64_w, i32_w]
        rfl
      refine pure_ (i := 15) (N := some 49) (v := ?_) (a' := ?_) #[true, true, true, true, true, true, true, true, true, true, true, true, true, true, true, true] rfl rfl (by kernel_rfl) (fun _ _ _ h => h) (Or.inl ⟨by rfl, ?_⟩) ?_ ?_
      rotate_left
      · intro w'
        go_simp
        with_reducible rfl
      rotate_left
      · simp only [Act.put, List.setIfInBounds_toArray, List.set_cons_zero, List.set_cons_succ, i64_w, i32_w]
        rfl
      refine done_ (by kernel_rfl) ?_
      clear hHeld hS9 b9 cw hb1 HS
      have HS := Aside0.mk h1
      clear h1
      have HW := Aside0.mk hwr
      clear hwr wx him im0 im1
      go_wp2
      go_roundg (N - j)
      case measure => have := HJ.out; omega
      case rel => exact ⟨j + 1, own1, _, by rw [wj], ⟨by have := HJ.out; have := HCJ.out; omega, by have := HCJ.out; omega⟩, ⟨by repeat (first | exact HS.out | apply St.alloc | apply St.drewN | apply St.drew)⟩, ⟨HW.out.2.1⟩, ⟨HW.out.2.2.1.trans HZ.out⟩⟩
    · have ej : j = N := by omega
      rcases (show (l0.length : Int) ≤ (j : Int) ∨ ((j : Int) < (l0.length : Int) ∧ (12 : Int) ≤ (j : Int)) by omega) with c | c
      · have d1 : (j < l0.length) = False := eq_false (by omega)
        have HDL := Aside0.mk (show d.now.length ≤ 8 from by have := HI.out.ok.nlen; have := HI.out.room; omega)
        have HJN := Aside0.mk (show j < 100000 by omega)
        have HB0 := Aside0.mk (show g < wr.heap.size ∧ w1.heap.size ≤ wr.heap.size from ⟨HS.out.dk.lt, HS.out.kp.1.1⟩)
        have HOW := Aside0.mk HS.out.dk.own_lt
        clear hj hn hc c cj ej
        go_wp2_with (first
          | (go_at_call 19; with_reducible refine Calls.mono (st_All (show St w1 _ g own da from by repeat (first | exact HS.out | apply St.alloc | apply St.drewN | apply St.drew)) HDLa.out) ?_; rintro e w3 ⟨vb, rfl, rb, b1⟩; have HBR := Aside0.mk (Kd.R_lower rb (show w2.heap.size ≤ _ from Nat.le_refl _)); have HSz := Aside0.mk (show w2.heap.size ≤ w3.heap.size from b1.size); have n0_ := Aside0.mk (St.below (show St w1 _ g own da from by repeat (first | exact HS.out | apply St.alloc | apply St.drewN | apply St.drew)) b1); have n1_ := Aside0.mk (Kd.R_below (by repeat (first | exact HA.out | apply Kd.R_alloc | apply Kd.R_drewN | apply Kd.R_drew)) b1); clear HS HA b1 rb; have HS := n0_; have HA := n1_; clear n0_ n1_)
          | (go_at_call 19; with_reducible refine Calls.mono (st_All (show St w1 _ g own d from by repeat (first | exact HS.out | apply St.alloc | apply St.drewN | apply St.drew)) (by have := HDL.out; omega)) ?_; rintro e w2 ⟨va, rfl, ra, b1⟩; obtain ⟨da, hda⟩ : ∃ da, d.withM (fun k => k < wr.heap.size ∨ w2.heap.size ≤ k) = da := ⟨_, rfl⟩; have n0_ : Aside0 (St w1 w2 g own da) := ⟨by rw [← hda]; exact St.later (show St w1 wr g own d from by repeat (first | exact HS.out | apply St.alloc | apply St.drewN | apply St.drew)) b1 (fun k => k < wr.heap.size ∨ w2.heap.size ≤ k) (fun k hk => .inl hk) (fun k hk => .inr hk)⟩; have HIa : Aside0 (Inv 8 j da) := ⟨by rw [← hda]; exact HI.out.reM _⟩; have HZa : Aside0 (da.reads = 0) := ⟨by rw [← hda, withM_reads]; exact HZ.out⟩; have HMa : Aside0 (∀ k, da.M k → k < wr.heap.size ∨ w2.heap.size ≤ k) := ⟨by rw [← hda]; exact withM_M d _ _ (fun k h => h)⟩; have hnow : da.now = d.now := (by rw [← hda, withM_now]); have HDLa : Aside0 (da.now.length < 8796093022208) := ⟨by rw [hnow]; have := HDL.out; omega⟩; have HD8 : Aside0 (da.now.length ≤ 8) := ⟨by rw [hnow]; exact HDL.out⟩; rw [← hnow] at ra; obtain ⟨Aa, ca, rfl⟩ := Kd.R_slice ra; have HGX := Aside0.mk (show ∀ k, (Value.slice Aa da.now.length ca).ownBlock = some k → wr.heap.size ≤ k ∧ k < w2.heap.size from fun k hk => ⟨Kd.R_base ra k hk, Kd.R_lt ra k hk⟩); have HA := Aside0.mk ra; have HWB := Aside0.mk (show wr.heap.size ≤ w2.heap.size from b1.size); clear HS b1 ra hda hnow; have HS := n0_; clear n0_)
          | ((with_reducible refine gate_dst (N := 54) rfl ?_); refine Kd.R_lit Kd.string _ 9 ?hg (N := 54) ?hd (xs := ([] : List ByteArray)) (inner := []) (ok := fun _ => True) (okp := fun _ => True) ?hr ?hp (fun _ hk => hk) trivial (Below.refl _ _) (Nat.le_refl _) (by simp) ?_; (case hd => rfl); (case hg => rfl); (case hr => first | (go_simp; done) | (go_simp; rfl)); (case hp => exact (Reps.none _ _)); intro v54 w54 ho b1 hg_ hnew_; clear hg_ hnew_; have HSb := Aside0.mk (Aside0.mk (show St w1 _ g own da from by repeat (first | exact HS.out | apply St.alloc | apply St.drewN | apply St.drew))); have HAb := Aside0.mk (show Kd.R Kd.string 9 _ _ (fun _ => True) (.slice Aa da.now.length ca) da.now from by repeat (first | exact HA.out | apply Kd.R_alloc | apply Kd.R_drewN | apply Kd.R_drew)); have HBb := Aside0.mk (show Kd.R Kd.string 9 _ w2.heap.size (fun _ => True) vb da.now from by repeat (first | exact HBR.out | apply Kd.R_alloc | apply Kd.R_drewN | apply Kd.R_drew)); have HL := Aside0.mk ho; have B54 := Aside0.mk b1; clear ho b1)
          | ((with_reducible refine gate_builtin (b := .append) (xs := #[.tmp 54, .tmp 55]) rfl ?_); at_builtin; refine Kd.R_append_rows Kd.string _ rfl (.tmp 54) (.tmp 55) 39 9 (.string ⟨#[]⟩) 16 rfl Try.underlying39 info9 rfl (by decide) (by omega) v54 ([] : List ByteArray) da.now _ _ _ (fun _ => True) (fun _ => False) rfl rfl HL.out ?aR (fun _ _ h => h) (fun _ h => h.elim) ?aF B54.out ?aS ?aL ?_; (case aR => exact (Kd.R_reads' (Kd.R_below HAb.out B54.out)).2.2); (case aF => exact (fun _ _ => trivial)); (case aS => exact B54.out.size); (case aL => have := HD8.out; simp; omega); intro v w6 ho b1 hg_ hat_; rw [List.nil_append] at ho; have HW := Aside0.mk (Kd.R_lower ho (show w2.heap.size ≤ _ from HSz.out)); clear HS HA HBR; have HS := Aside0.mk (St.below HSb.out.out b1); have HA := Aside0.mk (Kd.R_below HAb.out b1); have HBR := Aside0.mk (Kd.R_below HBb.out b1); clear ho hg_ hat_ HSb HAb HBb B54 b1 HL))
        have HGB := Aside0.mk (show g < w2.heap.size from by have := HB0.out; have := HWB.out; omega)
        have HOWB := Aside0.mk (show ∀ b, own = some b → b < w2.heap.size from fun b hb => by have := HOW.out b hb; have := HWB.out; omega)
        obtain ⟨v10_, hv10⟩ : ∃ v10_, v10_ = v := ⟨_, rfl⟩
        rw [← hv10] at HW ⊢
        clear hv10
        generalize wr.heap.size = b0_ at HMa HGX HWB HA HB0 HOW
        generalize w2.heap.size = b2_ at HMa HGX HWB HBR HW HSz HGB HOWB
        obtain ⟨n, hn0⟩ : ∃ n, n = da.now.length := ⟨_, rfl⟩
        have HNN := Aside0.mk hn0
        clear hn0 d1
        go_loopg [11] (n + 1) (fun kq v w' => ∃ (i : Nat) (la : List ByteArray), v = .int .i64 (i : Int) ∧ Aside0 (i + kq = n + 1 ∧ i ≤ n) ∧ Aside0 (la.length = n) ∧ Aside0 (St w1 w' g own da) ∧ Aside0 (Kd.R Kd.string 9 w' b0_ (fun _ => True) (.slice Aa da.now.length ca) la) ∧ Aside0 (Kd.R Kd.string 9 w' b2_ (fun _ => True) vb da.now) ∧ Aside0 (Kd.R Kd.string 9 w' b2_ (fun _ => True) v10_ da.now))
        case atStart => exact ⟨0, da.now, rfl, ⟨by omega, by omega⟩, ⟨HNN.out.symm⟩, ⟨by repeat (first | exact HS.out | apply St.alloc | apply St.drewN | apply St.drew)⟩, ⟨by repeat (first | exact HA.out | apply Kd.R_alloc | apply Kd.R_drewN | apply Kd.R_drew)⟩, ⟨by repeat (first | exact HBR.out | apply Kd.R_alloc | apply Kd.R_drewN | apply Kd.R_drew)⟩, ⟨by repeat (first | exact HW.out | apply Kd.R_alloc | apply Kd.R_drewN | apply Kd.R_drew)⟩⟩
        case round =>
          clear HS HA HBR HW
          obtain ⟨i, la, rfl, HII, HLA, HS, HA, HBR, HW⟩ := hrel
          have hi := HII.out
          have hn := HNN.out
          have hl := HLA.out
          have h8 := HD8.out
          by_cases ci : i < n
          · obtain ⟨ga, ea, hga1, hga2, zc, yc, hput⟩ := row_put HA.out i (by omega)
            subst ea
            have hgx := HGX.out ga rfl
            have d1 : (i < da.now.length) = True := eq_true (by omega)
            have q0 : ((0 : Int) ≤ (i : Int)) = True := eq_true (by omega)
            have q1 : ((i : Int) < (da.now.length : Int)) = True := eq_true (by omega)
            have wi : wrap64 ((i : Int) + 1) = (i : Int) + 1 := by unfold wrap64; omega
            have hb0 := HB0.out
            have HS2 := Aside0.mk (HS.out.far (ga := ga) (fun k hk => by have := HMa.out k hk; omega) (by omega) (by omega) i (.string ⟨#[120]⟩))
            have HA2 := Aside0.mk (hput ⟨#[120]⟩)
            have HBR2 := Aside0.mk (row_far HBR.out hgx.2 i (.string ⟨#[120]⟩))
            have HW2 := Aside0.mk (row_far HW.out hgx.2 i (.string ⟨#[120]⟩))
            have HLA2 := Aside0.mk (show (la.set i (⟨#[120]⟩ : ByteArray)).length = n by rw [List.length_set]; exact hl)
            have HCI := Aside0.mk ci
            clear hi hn hl h8 ci hb0 hgx hput hga1 hga2
            go_wp2
            go_roundg (n - i)
            case measure => have := HII.out; have := HCI.out; omega
            case rel => exact ⟨i + 1, _, by first | rfl | (rw [wi]; rfl), ⟨by have := HII.out; have := HCI.out; omega, by have := HCI.out; omega⟩, HLA2, HS2, HA2, HBR2, HW2⟩
          · have ei : i = n := by omega
            have d1 : (i < da.now.length) = False := eq_false (by omega)
            have HLS := Aside0.mk (own_last HIa.out HJN.out HZa.out cc)
            have HFEW := Aside0.mk HIa.out.ok.few
            have HN8 := Aside0.mk (show da.now.length < 1099511627776 by omega)
            clear hi hn hl h8 ci ei HA
            go_wp2_with (first
              | (go_at_call 19; with_reducible refine Calls.mono (st_All (show St w1 _ g own da from by repeat (first | exact HS.out | apply St.alloc | apply St.drewN | apply St.drew)) HDLa.out) ?_; rintro e w7 ⟨vc, rfl, rc, b1⟩; have n0_ := Aside0.mk (St.below (show St w1 _ g own da from by repeat (first | exact HS.out | apply St.alloc | apply St.drewN | apply St.drew)) b1); (try (have n2_ := Aside0.mk (Kd.R_below (by repeat (first | exact HBR.out | apply Kd.R_alloc | apply Kd.R_drewN | apply Kd.R_drew)) b1); clear HBR; have HBR := n2_; clear n2_)); (try (have n3_ := Aside0.mk (Kd.R_below (by repeat (first | exact HW.out | apply Kd.R_alloc | apply Kd.R_drewN | apply Kd.R_drew)) b1); clear HW; have HW := n3_; clear n3_)); (try (have n4_ := Aside0.mk (Kd.R_below (by repeat (first | exact HV.out | apply Kd.R_alloc | apply Kd.R_drewN | apply Kd.R_drew)) b1); clear HV; have HV := n4_; clear n4_)); (try (have n1_ := Aside0.mk (Kd.R_below (by repeat (first | exact HA.out | apply Kd.R_alloc | apply Kd.R_drewN | apply Kd.R_drew)) b1); clear HA; have HA := n1_; clear n1_)); have HV := Aside0.mk rc; clear HS b1 rc; have HS := n0_; clear n0_)
              | (go_at_call 18; (first | with_reducible refine Calls.mono (words_R HV.out HW.out HN8.out) ?_ | with_reducible refine Calls.mono (words_R HBR.out HW.out HN8.out) ?_); rintro e w8 ⟨rfl, b1⟩; (try clear HV); have n0_ := Aside0.mk (St.below (show St w1 _ g _ _ from by repeat (first | exact HS.out | apply St.alloc | apply St.drewN | apply St.drew)) b1); (try (have n2_ := Aside0.mk (Kd.R_below (by repeat (first | exact HBR.out | apply Kd.R_alloc | apply Kd.R_drewN | apply Kd.R_drew)) b1); clear HBR; have HBR := n2_; clear n2_)); (try (have n3_ := Aside0.mk (Kd.R_below (by repeat (first | exact HW.out | apply Kd.R_alloc | apply Kd.R_drewN | apply Kd.R_drew)) b1); clear HW; have HW := n3_; clear n3_)); (try (have n4_ := Aside0.mk (Kd.R_below (by repeat (first | exact HV.out | apply Kd.R_alloc | apply Kd.R_drewN | apply Kd.R_drew)) b1); clear HV; have HV := n4_; clear n4_)); (try (have n1_ := Aside0.mk (Kd.R_below (by repeat (first | exact HA.out | apply Kd.R_alloc | apply Kd.R_drewN | apply Kd.R_drew)) b1); clear HA; have HA := n1_; clear n1_)); clear HS b1; have HS := n0_; clear n0_)
              | (go_at_call 24; with_reducible refine Calls.mono (page_calls cc _) ?_; rintro e w8 ⟨rfl, b1⟩; have n0_ := Aside0.mk (St.below (show St w1 _ g _ _ from by repeat (first | exact HS.out | apply St.alloc | apply St.drewN | apply St.drew)) b1); (try (have n2_ := Aside0.mk (Kd.R_below (by repeat (first | exact HBR.out | apply Kd.R_alloc | apply Kd.R_drewN | apply Kd.R_drew)) b1); clear HBR; have HBR := n2_; clear n2_)); (try (have n3_ := Aside0.mk (Kd.R_below (by repeat (first | exact HW.out | apply Kd.R_alloc | apply Kd.R_drewN | apply Kd.R_drew)) b1); clear HW; have HW := n3_; clear n3_)); (try (have n4_ := Aside0.mk (Kd.R_below (by repeat (first | exact HV.out | apply Kd.R_alloc | apply Kd.R_drewN | apply Kd.R_drew)) b1); clear HV; have HV := n4_; clear n4_)); (try (have n1_ := Aside0.mk (Kd.R_below (by repeat (first | exact HA.out | apply Kd.R_alloc | apply Kd.R_drewN | apply Kd.R_drew)) b1); clear HA; have HA := n1_; clear n1_)); clear HS b1; have HS := n0_; clear n0_)
              | (go_at_call 25; with_reducible refine Calls.mono (st_Write' (show St w1 _ g own da from by repeat (first | exact HS.out | apply St.alloc | apply St.drewN | apply St.drew)) 0 (pageB cc) HFEW.out HLS.out.1.1 rfl) ?_; rintro e w8 ⟨rfl, own1, h1, m1⟩; have n2_ := Aside0.mk (row_mv (by repeat (first | exact HBR.out | apply Kd.R_alloc | apply Kd.R_drewN | apply Kd.R_drew)) HGB.out HOWB.out m1); have n3_ := Aside0.mk (row_mv (by repeat (first | exact HW.out | apply Kd.R_alloc | apply Kd.R_drewN | apply Kd.R_drew)) HGB.out HOWB.out m1); clear HS HBR HW m1; have HBR := n2_; have HW := n3_; have HS := Aside0.mk h1; clear h1 n2_ n3_)
              | (go_at_call 29; with_reducible refine Calls.mono (st_Read' (show St w1 _ g _ (da.write 0 (pageB cc)) from by repeat (first | exact HS.out | apply St.alloc | apply St.drewN | apply St.drew)) 0 HLS.out.1.2 rfl) ?_; rintro e w8 ⟨rfl, h1, -⟩; clear HS; have HS := Aside0.mk h1; clear h1)
              | (go_at_call 17; with_reducible refine Calls.mono (st_Reads' (show St w1 _ g _ (da.write 0 (pageB cc)).readD from by repeat (first | exact HS.out | apply St.alloc | apply St.drewN | apply St.drew)) HLS.out.2) ?_; rintro e w8 ⟨rfl, b1⟩; have n0_ := Aside0.mk (St.below (show St w1 _ g _ _ from by repeat (first | exact HS.out | apply St.alloc | apply St.drewN | apply St.drew)) b1); clear HS b1; have HS := n0_; clear n0_)
              | (go_at_call 13; with_reducible refine Calls.mono (FC.out _) ?_; rintro e w8 ⟨rfl, b1⟩; have n0_ := Aside0.mk (St.below (show St w1 _ g _ _ from by repeat (first | exact HS.out | apply St.alloc | apply St.drewN | apply St.drew)) b1); clear HS b1; have HS := n0_; clear n0_))
            go_ret
            exact ⟨by first | rfl | (simp; done), St.old (show St w1 _ g _ (da.write 0 (pageB cc)).readD from by repeat (first | exact HS.out | apply St.alloc | apply St.drewN | apply St.drew)) HB.out HG.out⟩
      · have d1 : (j < l0.length) = True := eq_true (by omega)
        have d2 : decide ((j : Int) < 12) = false := decide_eq_false (by omega)
        have HDL := Aside0.mk (show d.now.length ≤ 8 from by have := HI.out.ok.nlen; have := HI.out.room; omega)
        have HJN := Aside0.mk (show j < 100000 by omega)
        have HB0 := Aside0.mk (show g < wr.heap.size ∧ w1.heap.size ≤ wr.heap.size from ⟨HS.out.dk.lt, HS.out.kp.1.1⟩)
        have HOW := Aside0.mk HS.out.dk.own_lt
        clear hj hn hc c cj ej
        go_wp2_with (first
          | (go_at_call 19; with_reducible refine Calls.mono (st_All (show St w1 _ g own da from by repeat (first | exact HS.out | apply St.alloc | apply St.drewN | apply St.drew)) HDLa.out) ?_; rintro e w3 ⟨vb, rfl, rb, b1⟩; have HBR := Aside0.mk (Kd.R_lower rb (show w2.heap.size ≤ _ from Nat.le_refl _)); have HSz := Aside0.mk (show w2.heap.size ≤ w3.heap.size from b1.size); have n0_ := Aside0.mk (St.below (show St w1 _ g own da from by repeat (first | exact HS.out | apply St.alloc | apply St.drewN | apply St.drew)) b1); have n1_ := Aside0.mk (Kd.R_below (by repeat (first | exact HA.out | apply Kd.R_alloc | apply Kd.R_drewN | apply Kd.R_drew)) b1); clear HS HA b1 rb; have HS := n0_; have HA := n1_; clear n0_ n1_)
          | (go_at_call 19; with_reducible refine Calls.mono (st_All (show St w1 _ g own d from by repeat (first | exact HS.out | apply St.alloc | apply St.drewN | apply St.drew)) (by have := HDL.out; omega)) ?_; rintro e w2 ⟨va, rfl, ra, b1⟩; obtain ⟨da, hda⟩ : ∃ da, d.withM (fun k => k < wr.heap.size ∨ w2.heap.size ≤ k) = da := ⟨_, rfl⟩; have n0_ : Aside0 (St w1 w2 g own da) := ⟨by rw [← hda]; exact St.later (show St w1 wr g own d from by repeat (first | exact HS.out | apply St.alloc | apply St.drewN | apply St.drew)) b1 (fun k => k < wr.heap.size ∨ w2.heap.size ≤ k) (fun k hk => .inl hk) (fun k hk => .inr hk)⟩; have HIa : Aside0 (Inv 8 j da) := ⟨by rw [← hda]; exact HI.out.reM _⟩; have HZa : Aside0 (da.reads = 0) := ⟨by rw [← hda, withM_reads]; exact HZ.out⟩; have HMa : Aside0 (∀ k, da.M k → k < wr.heap.size ∨ w2.heap.size ≤ k) := ⟨by rw [← hda]; exact withM_M d _ _ (fun k h => h)⟩; have hnow : da.now = d.now := (by rw [← hda, withM_now]); have HDLa : Aside0 (da.now.length < 8796093022208) := ⟨by rw [hnow]; have := HDL.out; omega⟩; have HD8 : Aside0 (da.now.length ≤ 8) := ⟨by rw [hnow]; exact HDL.out⟩; rw [← hnow] at ra; obtain ⟨Aa, ca, rfl⟩ := Kd.R_slice ra; have HGX := Aside0.mk (show ∀ k, (Value.slice Aa da.now.length ca).ownBlock = some k → wr.heap.size ≤ k ∧ k < w2.heap.size from fun k hk => ⟨Kd.R_base ra k hk, Kd.R_lt ra k hk⟩); have HA := Aside0.mk ra; have HWB := Aside0.mk (show wr.heap.size ≤ w2.heap.size from b1.size); clear HS b1 ra hda hnow; have HS := n0_; clear n0_)
          | ((with_reducible refine gate_dst (N := 54) rfl ?_); refine Kd.R_lit Kd.string _ 9 ?hg (N := 54) ?hd (xs := ([] : List ByteArray)) (inner := []) (ok := fun _ => True) (okp := fun _ => True) ?hr ?hp (fun _ hk => hk) trivial (Below.refl _ _) (Nat.le_refl _) (by simp) ?_; (case hd => rfl); (case hg => rfl); (case hr => first | (go_simp; done) | (go_simp; rfl)); (case hp => exact (Reps.none _ _)); intro v54 w54 ho b1 hg_ hnew_; clear hg_ hnew_; have HSb := Aside0.mk (Aside0.mk (show St w1 _ g own da from by repeat (first | exact HS.out | apply St.alloc | apply St.drewN | apply St.drew))); have HAb := Aside0.mk (show Kd.R Kd.string 9 _ _ (fun _ => True) (.slice Aa da.now.length ca) da.now from by repeat (first | exact HA.out | apply Kd.R_alloc | apply Kd.R_drewN | apply Kd.R_drew)); have HBb := Aside0.mk (show Kd.R Kd.string 9 _ w2.heap.size (fun _ => True) vb da.now from by repeat (first | exact HBR.out | apply Kd.R_alloc | apply Kd.R_drewN | apply Kd.R_drew)); have HL := Aside0.mk ho; have B54 := Aside0.mk b1; clear ho b1)
          | ((with_reducible refine gate_builtin (b := .append) (xs := #[.tmp 54, .tmp 55]) rfl ?_); at_builtin; refine Kd.R_append_rows Kd.string _ rfl (.tmp 54) (.tmp 55) 39 9 (.string ⟨#[]⟩) 16 rfl Try.underlying39 info9 rfl (by decide) (by omega) v54 ([] : List ByteArray) da.now _ _ _ (fun _ => True) (fun _ => False) rfl rfl HL.out ?aR (fun _ _ h => h) (fun _ h => h.elim) ?aF B54.out ?aS ?aL ?_; (case aR => exact (Kd.R_reads' (Kd.R_below HAb.out B54.out)).2.2); (case aF => exact (fun _ _ => trivial)); (case aS => exact B54.out.size); (case aL => have := HD8.out; simp; omega); intro v w6 ho b1 hg_ hat_; rw [List.nil_append] at ho; have HW := Aside0.mk (Kd.R_lower ho (show w2.heap.size ≤ _ from HSz.out)); clear HS HA HBR; have HS := Aside0.mk (St.below HSb.out.out b1); have HA := Aside0.mk (Kd.R_below HAb.out b1); have HBR := Aside0.mk (Kd.R_below HBb.out b1); clear ho hg_ hat_ HSb HAb HBb B54 b1 HL))
        have HGB := Aside0.mk (show g < w2.heap.size from by have := HB0.out; have := HWB.out; omega)
        have HOWB := Aside0.mk (show ∀ b, own = some b → b < w2.heap.size from fun b hb => by have := HOW.out b hb; have := HWB.out; omega)
        obtain ⟨v10_, hv10⟩ : ∃ v10_, v10_ = v := ⟨_, rfl⟩
        rw [← hv10] at HW ⊢
        clear hv10
        generalize wr.heap.size = b0_ at HMa HGX HWB HA HB0 HOW
        generalize w2.heap.size = b2_ at HMa HGX HWB HBR HW HSz HGB HOWB
        obtain ⟨n, hn0⟩ : ∃ n, n = da.now.length := ⟨_, rfl⟩
        have HNN := Aside0.mk hn0
        clear hn0 d1
        go_loopg [11] (n + 1) (fun kq v w' => ∃ (i : Nat) (la : List ByteArray), v = .int .i64 (i : Int) ∧ Aside0 (i + kq = n + 1 ∧ i ≤ n) ∧ Aside0 (la.length = n) ∧ Aside0 (St w1 w' g own da) ∧ Aside0 (Kd.R Kd.string 9 w' b0_ (fun _ => True) (.slice Aa da.now.length ca) la) ∧ Aside0 (Kd.R Kd.string 9 w' b2_ (fun _ => True) vb da.now) ∧ Aside0 (Kd.R Kd.string 9 w' b2_ (fun _ => True) v10_ da.now))
        case atStart => exact ⟨0, da.now, rfl, ⟨by omega, by omega⟩, ⟨HNN.out.symm⟩, ⟨by repeat (first | exact HS.out | apply St.alloc | apply St.drewN | apply St.drew)⟩, ⟨by repeat (first | exact HA.out | apply Kd.R_alloc | apply Kd.R_drewN | apply Kd.R_drew)⟩, ⟨by repeat (first | exact HBR.out | apply Kd.R_alloc | apply Kd.R_drewN | apply Kd.R_drew)⟩, ⟨by repeat (first | exact HW.out | apply Kd.R_alloc | apply Kd.R_drewN | apply Kd.R_drew)⟩⟩
        case round =>
          clear HS HA HBR HW
          obtain ⟨i, la, rfl, HII, HLA, HS, HA, HBR, HW⟩ := hrel
          have hi := HII.out
          have hn := HNN.out
          have hl := HLA.out
          have h8 := HD8.out
          by_cases ci : i < n
          · obtain ⟨ga, ea, hga1, hga2, zc, yc, hput⟩ := row_put HA.out i (by omega)
            subst ea
            have hgx := HGX.out ga rfl
            have d1 : (i < da.now.length) = True := eq_true (by omega)
            have q0 : ((0 : Int) ≤ (i : Int)) = True := eq_true (by omega)
            have q1 : ((i : Int) < (da.now.length : Int)) = True := eq_true (by omega)
            have wi : wrap64 ((i : Int) + 1) = (i : Int) + 1 := by unfold wrap64; omega
            have hb0 := HB0.out
            have HS2 := Aside0.mk (HS.out.far (ga := ga) (fun k hk => by have := HMa.out k hk; omega) (by omega) (by omega) i (.string ⟨#[120]⟩))
            have HA2 := Aside0.mk (hput ⟨#[120]⟩)
            have HBR2 := Aside0.mk (row_far HBR.out hgx.2 i (.string ⟨#[120]⟩))
            have HW2 := Aside0.mk (row_far HW.out hgx.2 i (.string ⟨#[120]⟩))
            have HLA2 := Aside0.mk (show (la.set i (⟨#[120]⟩ : ByteArray)).length = n by rw [List.length_set]; exact hl)
            have HCI := Aside0.mk ci
            clear hi hn hl h8 ci hb0 hgx hput hga1 hga2
            go_wp2
            go_roundg (n - i)
            case measure => have := HII.out; have := HCI.out; omega
            case rel => exact ⟨i + 1, _, by first | rfl | (rw [wi]; rfl), ⟨by have := HII.out; have := HCI.out; omega, by have := HCI.out; omega⟩, HLA2, HS2, HA2, HBR2, HW2⟩
          · have ei : i = n := by omega
            have d1 : (i < da.now.length) = False := eq_false (by omega)
            have HLS := Aside0.mk (own_last HIa.out HJN.out HZa.out cc)
            have HFEW := Aside0.mk HIa.out.ok.few
            have HN8 := Aside0.mk (show da.now.length < 1099511627776 by omega)
            clear hi hn hl h8 ci ei HA
            go_wp2_with (first
              | (go_at_call 19; with_reducible refine Calls.mono (st_All (show St w1 _ g own da from by repeat (first | exact HS.out | apply St.alloc | apply St.drewN | apply St.drew)) HDLa.out) ?_; rintro e w7 ⟨vc, rfl, rc, b1⟩; have n0_ := Aside0.mk (St.below (show St w1 _ g own da from by repeat (first | exact HS.out | apply St.alloc | apply St.drewN | apply St.drew)) b1); (try (have n2_ := Aside0.mk (Kd.R_below (by repeat (first | exact HBR.out | apply Kd.R_alloc | apply Kd.R_drewN | apply Kd.R_drew)) b1); clear HBR; have HBR := n2_; clear n2_)); (try (have n3_ := Aside0.mk (Kd.R_below (by repeat (first | exact HW.out | apply Kd.R_alloc | apply Kd.R_drewN | apply Kd.R_drew)) b1); clear HW; have HW := n3_; clear n3_)); (try (have n4_ := Aside0.mk (Kd.R_below (by repeat (first | exact HV.out | apply Kd.R_alloc | apply Kd.R_drewN | apply Kd.R_drew)) b1); clear HV; have HV := n4_; clear n4_)); (try (have n1_ := Aside0.mk (Kd.R_below (by repeat (first | exact HA.out | apply Kd.R_alloc | apply Kd.R_drewN | apply Kd.R_drew)) b1); clear HA; have HA := n1_; clear n1_)); have HV := Aside0.mk rc; clear HS b1 rc; have HS := n0_; clear n0_)
              | (go_at_call 18; (first | with_reducible refine Calls.mono (words_R HV.out HW.out HN8.out) ?_ | with_reducible refine Calls.mono (words_R HBR.out HW.out HN8.out) ?_); rintro e w8 ⟨rfl, b1⟩; (try clear HV); have n0_ := Aside0.mk (St.below (show St w1 _ g _ _ from by repeat (first | exact HS.out | apply St.alloc | apply St.drewN | apply St.drew)) b1); (try (have n2_ := Aside0.mk (Kd.R_below (by repeat (first | exact HBR.out | apply Kd.R_alloc | apply Kd.R_drewN | apply Kd.R_drew)) b1); clear HBR; have HBR := n2_; clear n2_)); (try (have n3_ := Aside0.mk (Kd.R_below (by repeat (first | exact HW.out | apply Kd.R_alloc | apply Kd.R_drewN | apply Kd.R_drew)) b1); clear HW; have HW := n3_; clear n3_)); (try (have n4_ := Aside0.mk (Kd.R_below (by repeat (first | exact HV.out | apply Kd.R_alloc | apply Kd.R_drewN | apply Kd.R_drew)) b1); clear HV; have HV := n4_; clear n4_)); (try (have n1_ := Aside0.mk (Kd.R_below (by repeat (first | exact HA.out | apply Kd.R_alloc | apply Kd.R_drewN | apply Kd.R_drew)) b1); clear HA; have HA := n1_; clear n1_)); clear HS b1; have HS := n0_; clear n0_)
              | (go_at_call 24; with_reducible refine Calls.mono (page_calls cc _) ?_; rintro e w8 ⟨rfl, b1⟩; have n0_ := Aside0.mk (St.below (show St w1 _ g _ _ from by repeat (first | exact HS.out | apply St.alloc | apply St.drewN | apply St.drew)) b1); (try (have n2_ := Aside0.mk (Kd.R_below (by repeat (first | exact HBR.out | apply Kd.R_alloc | apply Kd.R_drewN | apply Kd.R_drew)) b1); clear HBR; have HBR := n2_; clear n2_)); (try (have n3_ := Aside0.mk (Kd.R_below (by repeat (first | exact HW.out | apply Kd.R_alloc | apply Kd.R_drewN | apply Kd.R_drew)) b1); clear HW; have HW := n3_; clear n3_)); (try (have n4_ := Aside0.mk (Kd.R_below (by repeat (first | exact HV.out | apply Kd.R_alloc | apply Kd.R_drewN | apply Kd.R_drew)) b1); clear HV; have HV := n4_; clear n4_)); (try (have n1_ := Aside0.mk (Kd.R_below (by repeat (first | exact HA.out | apply Kd.R_alloc | apply Kd.R_drewN | apply Kd.R_drew)) b1); clear HA; have HA := n1_; clear n1_)); clear HS b1; have HS := n0_; clear n0_)
              | (go_at_call 25; with_reducible refine Calls.mono (st_Write' (show St w1 _ g own da from by repeat (first | exact HS.out | apply St.alloc | apply St.drewN | apply St.drew)) 0 (pageB cc) HFEW.out HLS.out.1.1 rfl) ?_; rintro e w8 ⟨rfl, own1, h1, m1⟩; have n2_ := Aside0.mk (row_mv (by repeat (first | exact HBR.out | apply Kd.R_alloc | apply Kd.R_drewN | apply Kd.R_drew)) HGB.out HOWB.out m1); have n3_ := Aside0.mk (row_mv (by repeat (first | exact HW.out | apply Kd.R_alloc | apply Kd.R_drewN | apply Kd.R_drew)) HGB.out HOWB.out m1); clear HS HBR HW m1; have HBR := n2_; have HW := n3_; have HS := Aside0.mk h1; clear h1 n2_ n3_)
              | (go_at_call 29; with_reducible refine Calls.mono (st_Read' (show St w1 _ g _ (da.write 0 (pageB cc)) from by repeat (first | exact HS.out | apply St.alloc | apply St.drewN | apply St.drew)) 0 HLS.out.1.2 rfl) ?_; rintro e w8 ⟨rfl, h1, -⟩; clear HS; have HS := Aside0.mk h1; clear h1)
              | (go_at_call 17; with_reducible refine Calls.mono (st_Reads' (show St w1 _ g _ (da.write 0 (pageB cc)).readD from by repeat (first | exact HS.out | apply St.alloc | apply St.drewN | apply St.drew)) HLS.out.2) ?_; rintro e w8 ⟨rfl, b1⟩; have n0_ := Aside0.mk (St.below (show St w1 _ g _ _ from by repeat (first | exact HS.out | apply St.alloc | apply St.drewN | apply St.drew)) b1); clear HS b1; have HS := n0_; clear n0_)
              | (go_at_call 13; with_reducible refine Calls.mono (FC.out _) ?_; rintro e w8 ⟨rfl, b1⟩; have n0_ := Aside0.mk (St.below (show St w1 _ g _ _ from by repeat (first | exact HS.out | apply St.alloc | apply St.drewN | apply St.drew)) b1); clear HS b1; have HS := n0_; clear n0_))
            go_ret
            exact ⟨by first | rfl | (simp; done), St.old (show St w1 _ g _ (da.write 0 (pageB cc)).readD from by repeat (first | exact HS.out | apply St.alloc | apply St.drewN | apply St.drew)) HB.out HG.out⟩
end Go.Proofs.Ytnmdpjbpbiempaa.P
