/- What is proved here: what a write that is let through does to a disk in memory. Conditions: as the theorem names them. -/
import Derived.Test.YtnmdpjbpbiempaaDk3
import Derived.Deep.RegionHeld3
set_option linter.unusedVariables false
set_option linter.unusedSimpArgs false
namespace Go.Proofs.Ytnmdpjbpbiempaa.P
open Go.RowKit Go.Proofs.YtnmdpjbpbiempaaW.PrintWords Go.Proofs.YtnmdpjbpbiempaaW.PrintLast Go.Proofs.YtnmdpjbpbiempaaW.PrintMore
theorem DkAt.own_lt {W : World} {g : Nat} {own : Option Nat} {d : Dk} (h : DkAt W g own d) : ∀ b, own = some b → b < W.heap.size := by
  obtain ⟨A3, c3, A4, c4, A5, c5, h0, h1, h2, h3, h4⟩ := h
  exact fun b hb => Kd.R_lt h3 b (h4.1.trans hb)
theorem DkAt.lt {W : World} {g : Nat} {own : Option Nat} {d : Dk} (h : DkAt W g own d) : g < W.heap.size := by
  obtain ⟨A3, c3, A4, c4, A5, c5, h0, -⟩ := h
  exact blk_lt h0
theorem DkAt.setNow {W : World} {g base : Nat} {own : Option Nat} {d : Dk} (h : DkAt W g own d) {A : Option Addr} {c : Nat} {xs : List ByteArray} (hR : Kd.R Kd.string 9 W base (fun _ => True) (.slice A xs.length c) xs) (hg : g < base) (ho : ∀ b, own = some b → b < base) (hM : ∀ k, base ≤ k → d.M k) :
    DkAt (W.setCell ⟨g, 4, none⟩ (.slice A xs.length c)) g own { d with now := xs } := by
  obtain ⟨A3, c3, A4, c4, A5, c5, h0, h1, h2, h3, h4, h5⟩ := h
  have hV := Kd.V_mono (ok' := fun k => k ≠ g ∧ some k ≠ own ∧ d.M k) (Kd.R_V (base' := 0) (Kd.R_tight rfl hR)) (fun k hk => by
    have q := Kd.R_base hR k hk.symm
    exact ⟨by omega, fun e => by have := ho k e.symm; omega, hM k q⟩)
  exact ⟨A3, c3, A, c, A5, c5, blk_put h0 4 _ rfl, Kd.V_far h1 (fun _ hk => hk.1) _, Kd.V_far hV (fun _ hk => hk.1) _, Kd.R_far h3 (fun _ hk => hk.1) _, h4, fun k hk => h5 k (by simpa using hk)⟩
theorem DkAt.fresh {W : World} {g : Nat} {own : Option Nat} {d : Dk} (h : DkAt W g own d) : ∀ k, W.heap.size ≤ k → d.M k := by
  obtain ⟨A3, c3, A4, c4, A5, c5, h0, h1, h2, h3, h4, h5⟩ := h
  exact h5
/-- A world that is older than all. -/
theorem w_zero (w : World) (g : Nat) : ∃ w0 : World, Below w0.heap.size w0 w ∧ w0.heap.size ≤ g := ⟨{ w with heap := #[] }, ⟨rfl, rfl, rfl, Nat.zero_le _, fun j hj => absurd hj (Nat.not_lt_zero _)⟩, Nat.zero_le _⟩
/-- What a disk's call leaves of the memory. -/
def Mv (w w' : World) (g : Nat) (own own' : Option Nat) : Prop := Kp w w' g own ∧ (own' = own ∨ ∃ b, own' = some b ∧ w.heap.size ≤ b)
theorem Mv.refl (w : World) (g : Nat) (own : Option Nat) : Mv w w g own own := ⟨Kp.refl w g own, .inl rfl⟩
theorem Mv.of_none {w w' : World} {g : Nat} {own : Option Nat} (h : Kp w w' g none) : Mv w w' g own own := ⟨⟨⟨h.1.1, fun k hk hg _ => h.1.2 k hk hg (by simp)⟩, h.2⟩, .inl rfl⟩
theorem Mv.trans {w w1 w2 : World} {g : Nat} {o o1 o2 : Option Nat} (h : Mv w w1 g o o1) (h' : Mv w1 w2 g o1 o2) : Mv w w2 g o o2 := by
  refine ⟨⟨⟨Nat.le_trans h.1.1.1 h'.1.1.1, fun k hk hg ho => ?_⟩, h.1.2.trans h'.1.2⟩, ?_⟩
  · refine (h'.1.1.2 k (Nat.lt_of_lt_of_le hk h.1.1.1) hg ?_).trans (h.1.1.2 k hk hg ho)
    rcases h.2 with e | ⟨b, e, hb⟩
    · rw [e]; exact ho
    · rw [e]; intro q; injection q with q; omega
  · rcases h'.2 with e | ⟨b, e, hb⟩
    · rcases h.2 with e1 | ⟨b1, e1, hb1⟩
      · exact .inl (e.trans e1)
      · exact .inr ⟨b1, e.trans e1, hb1⟩
    · exact .inr ⟨b, e, Nat.le_trans h.1.1.1 hb⟩
theorem Mv.drew {w w' : World} {g : Nat} {own own' : Option Nat} (h : Mv w w' g own own') : Mv w w'.drew g own own' := h
theorem Mv.drewN {w w' : World} {g : Nat} {own own' : Option Nat} (h : Mv w w' g own own') (m : Nat) : Mv w (w'.drewN m) g own own' := h
/-- A page more that is pending. -/
theorem DkAt.setPend {W w1 : World} {g : Nat} {own : Option Nat} {d : Dk} (h : DkAt W g own d) {A : Option Addr} {c : Nat} {xs : List S79} (hR : Kd.R k79 79 w1 0 (fun k => k ≠ g ∧ d.M k) (.slice A xs.length c) xs) (hg : W.grownBy w1 own) (hat : (Value.slice A xs.length c).ownBlock = own ∨ ∃ b, (Value.slice A xs.length c).ownBlock = some b ∧ W.heap.size ≤ b) :
    DkAt (w1.setCell ⟨g, 5, none⟩ (.slice A xs.length c)) g (Value.slice A xs.length c).ownBlock { d with pend := xs } := by
  obtain ⟨A3, c3, A4, c4, A5, c5, h0, h1, h2, h3, h4, h5⟩ := h
  subst h4
  have hne : some g ≠ (Value.slice A5 d.pend.length c5).ownBlock := fun e => (h3.1 g e.symm).1 rfl
  have k0 := blk_grown h0 hg hne
  have q : ∀ v, Kd.V Kd.string 9 W 0 (fun k => k ≠ g ∧ some k ≠ (Value.slice A5 d.pend.length c5).ownBlock ∧ d.M k) v d.kept → True := fun _ _ => trivial
  have m1 := Kd.V_mono (Kd.V_after (ok := fun k => k ≠ g ∧ d.M k) (Kd.V_mono h1 (fun k hk => ⟨⟨hk.1, hk.2.2⟩, hk.2.1⟩)) hg hat) (ok' := fun k => k ≠ g ∧ some k ≠ (Value.slice A xs.length c).ownBlock ∧ d.M k) (fun k hk => ⟨hk.1.1, hk.2, hk.1.2⟩)
  have m2 := Kd.V_mono (Kd.V_after (ok := fun k => k ≠ g ∧ d.M k) (Kd.V_mono h2 (fun k hk => ⟨⟨hk.1, hk.2.2⟩, hk.2.1⟩)) hg hat) (ok' := fun k => k ≠ g ∧ some k ≠ (Value.slice A xs.length c).ownBlock ∧ d.M k) (fun k hk => ⟨hk.1.1, hk.2, hk.1.2⟩)
  exact ⟨A3, c3, A4, c4, A, c, blk_put k0 5 _ rfl, Kd.V_far m1 (fun _ hk => hk.1) _, Kd.V_far m2 (fun _ hk => hk.1) _, Kd.R_far hR (fun _ hk => hk.1) _, rfl, fun k hk => h5 k (Nat.le_trans hg.size (by simpa using hk))⟩
theorem info79 : (Try.prog.info? 79).map (fun i => (i.zero, i.size, i.bytes)) = some (some (.agg #[.int .i64 0, .string ⟨#[]⟩]), 2, 24) := by kernel_rfl
theorem wp_gen {c : Code} {P : Program} {Q : Exit → Act → World → Prop} {a : Act} {W : World} {C : World → Prop} (hC : C W) (h : ∀ W', C W' → c.wp P Q a W') : c.wp P Q a W := h W hC
set_option maxHeartbeats 8000000 in
set_option maxRecDepth 100000 in
theorem dk_Write_ok (k : Nat) (w : World) (g : Nat) (own : Option Nat) (d : Dk) (i : Int) (s : ByteArray) (r1 : List ByteArray) (h : DkAt w g own d) (hpl : d.pend.length < 1099511627776) (c0 : d.left ≠ 0) (c1 : 0 ≤ i) (c2 : (s.size : Int) = d.p) (c3 : i < d.room)
    (hp : disk_Disk_put.f k d.p d.room d.reads d.kept d.now d.pend d.left d.now i s = some (r1, d.p, d.room, d.reads, d.left)) :
    Calls Try.prog 25 #[.pointer (some ⟨g, 0, none⟩), .int .i64 i, .string s] w fun e w' => e = .returned (.int .i64 0) ∧ (∃ own', DkAt w' g own' ({ d with now := r1, pend := d.pend ++ [⟨i, s⟩] } : Dk).done ∧ Mv w w' g own own') := by
  obtain ⟨w0, hB, hge⟩ := w_zero w g
  have HI := Aside0.mk h
  have HK := Aside0.mk (Kp.refl w g none)
  have HP := Aside0.mk hp
  have HB := Aside0.mk hB
  clear h hp
  have HPL := Aside0.mk hpl
  clear hpl
  have hu79 := Try.underlying79
  have c0b : (d.left != 0) = true := bne_iff_ne.mpr c0
  have c1b : decide (i < 0) = false := decide_eq_false (by omega)
  have c2b : ((s.size : Int) != d.p) = false := bne_eq_false_iff_eq.mpr c2
  have c3b : decide (d.room ≤ i) = false := decide_eq_false (by omega)
  clear c0 c1 c2 c3
  go_enter Try.func25, Try.ntmps25
  go_wp2_with (first | (go_at_call 40; refine (dk_ask _ g own d (by repeat (first | exact HI.out | apply DkAt.alloc | apply DkAt.drewN | apply DkAt.drew))).mono ?_; rw [c0b]; rintro e w1 ⟨rfl, h1, k1, b1⟩; have n1_ := Aside0.mk (Kp.trans (by repeat (first | exact HK.out | apply kp_drewN | apply kp_drew | apply kp_alloc)) k1 (.inl rfl)); clear HI HK k1; have HI := Aside0.mk h1; have HK := n1_; have HBw := Aside0.mk (below_step (by repeat (first | exact HB.out | apply pw_below_drewN | apply below_drew1)) b1); obtain ⟨A3, c3, A4, c4, A5, c5, h0, hv1, hv2, hv3, hv4⟩ := h1; have z0 := cellS67_0 h0; have z1 := cellS67_1 h0; have z4 := cellS67_4 h0; have z5 := cellS67_5 h0; have y0 := blk_frozen h0 0; have y4 := blk_frozen h0 4; have y5 := blk_frozen h0 5; clear n1_) | ((with_reducible refine gate_dst (N := 7) rfl ?_); refine box_event ?hg (N := 7) ?hd (cs := #[.int .i64 0, .string (⟨#[]⟩ : ByteArray)]) (t := 79) ?hr ?_; (case hd => rfl); (case hg => rfl); (case hr => first | (go_simp; done) | (go_simp; rfl)); intro gb hg w5 hbox hb; have HZ := Aside0.mk (below_step (w := w1) (by repeat (first | exact Below.refl _ _ | apply pw_below_drewN | apply below_drew1)) hb); have GB := Aside0.mk (show w1.heap.size ≤ gb from by rw [hg]; exact Nat.le_refl _); have BK := Aside0.mk hbox; clear hb hg hbox; have f0 := blk_frozen BK.out 0; have f1 := blk_frozen BK.out 1; have e0 : w5.cell? ⟨gb, 0, none⟩ = some (.int .i64 0) := (blk_cell BK.out 0).trans rfl; have e1 : w5.cell? ⟨gb, 1, none⟩ = some (.string (⟨#[]⟩ : ByteArray)) := (blk_cell BK.out 1).trans rfl))
  refine wp_gen (C := fun W' => Below w1.heap.size w1 W' ∧ W'.heap[gb]? = some (.cells #[.int .i64 i, .string s] 79 (0, 0))) ⟨by repeat (first | exact HZ.out | apply pw_below_drewN | apply below_drew1 | refine below_set ?_ GB.out), by repeat (first | exact BK.out | refine bx ?_ | refine blk_put (cs := #[.int .i64 i, .string (⟨#[]⟩ : ByteArray)]) ?_ 1 _ rfl | refine blk_put (cs := #[.int .i64 0, .string (⟨#[]⟩ : ByteArray)]) ?_ 0 _ rfl)⟩ (fun w8 hC => ?_)
  obtain ⟨hb8, hk8⟩ := hC
  have h8 : DkAt w8 g own d := HI.out.below hb8
  have hbw := hb8
  have HOL := Aside0.mk HI.out.own_lt
  have HB8 := Aside0.mk (show Below w0.heap.size w0 w8 from below_step HBw.out (hb8.mono (Nat.le_refl _)))
  have HD8 := Aside0.mk h8
  clear HI z0 z1 z4 z5 y0 y4 y5 h0 hv1 hv2 hv3 hv4 f0 f1 e0 e1 BK HZ hb8
  obtain ⟨A3, c3, A4, c4, A5, c5, h0, hv1, hv2, hv3, hv4⟩ := h8
  have z4 := cellS67_4 h0
  have y4 := blk_frozen h0 4
  have e0 : w8.cell? ⟨gb, 0, none⟩ = some (.int .i64 i) := (blk_cell hk8 0).trans rfl
  have e1 : w8.cell? ⟨gb, 1, none⟩ = some (.string s) := (blk_cell hk8 1).trans rfl
  have hf1 : ∀ ad, A4 = some ad → 0 < d.now.length → ad.block ≠ g := fun ad e hn => by
    subst e
    exact Kd.foot_ne (d := Kd.string) (fun W' hk => (Kd.V_reads' (Kd.V_step hv2 (fun k ho hk' => hk.2 k hk' ho.1 (by simp)))).2.2) hn (by decide)
  have HF1 := Aside0.mk hf1
  have HIP := Aside0.mk (show IsP w0 w8 g #[.int .i64 d.p, .int .i64 d.room, .int .i64 d.reads, .slice A3 d.kept.length c3, .slice A4 d.now.length c4, .slice A5 d.pend.length c5, .int .i64 d.left] d.p from ⟨h0, hge, rfl⟩)
  have HV := Aside0.mk (Kd.V_reads' hv2).2
  have HH := Aside0.mk hk8
  have hgb : gb ≠ g := fun e => by subst e; have q := hk8.symm.trans h0; simp at q
  clear h0 hv1 hv2 hv3 hv4 hf1 hk8
  refine start_ (n := 11) (S := fun w' => w'.cell? ⟨g, 4, none⟩ = some (.slice A4 d.now.length c4) ∧ w'.cell? ⟨gb, 0, none⟩ = some (.int .i64 i) ∧ w'.cell? ⟨gb, 1, none⟩ = some (.string s)) (ds := [10]) #[false, false, false, false, false, false, false, false, false, false, false] (by kernel_rfl) rfl rfl ⟨z4, e0, e1⟩ (fun hHeld => ?_)
  refine pure_ (i := 0) (N := some 34) (v := ?_) (a' := ?_) #[true, false, false, false, false, false, false, false, false, false, false] rfl rfl (by kernel_rfl) (fun _ _ _ h => h) (Or.inl ⟨by rfl, ?_⟩) ?_ ?_
  rotate_left
  · intro w'
    go_simp
    with_reducible rfl
  rotate_left
  · simp only [Act.put, List.setIfInBounds_toArray, List.set_cons_zero, List.set_cons_succ, i64_w, i32_w]
    rfl
  refine pure_ (i := 1) (N := some 35) (v := ?_) (a' := ?_) #[true, true, false, false, false, false, false, false, false, false, false] rfl rfl (by kernel_rfl) (fun _ _ _ h => h) (Or.inl ⟨by rfl, ?_⟩) ?_ ?_
  rotate_left
  · intro w'
    go_simp
    with_reducible rfl
  rotate_left
  · simp only [Act.put, List.setIfInBounds_toArray, List.set_cons_zero, List.set_cons_succ, i64_w, i32_w]
    rfl
  refine pure_ (i := 2) (N := some 36) (v := ?_) (a' := ?_) #[true, true, true, false, false, false, false, false, false, false, false] rfl rfl (by kernel_rfl) (fun _ _ _ h => h) (Or.inl ⟨by rfl, ?_⟩) ?_ ?_
  rotate_left
  · intro w'
    go_simp
    with_reducible rfl
  rotate_left
  · simp only [Act.put, List.setIfInBounds_toArray, List.set_cons_zero, List.set_cons_succ, i64_w, i32_w]
    rfl
  refine pure_ (i := 3) (N := some 37) (v := ?_) (a' := ?_) #[true, true, true, true, false, false, false, false, false, false, false] rfl rfl (by kernel_rfl) (fun _ _ _ h => h) (Or.inl ⟨by rfl, ?_⟩) ?_ ?_
  rotate_left
  · intro w'
    go_simp
    with_reducible rfl
  rotate_left
  · simp only [Act.put, List.setIfInBounds_toArray, List.set_cons_zero, List.set_cons_succ, i64_w, i32_w]
    rfl
  refine pure_ (i := 4) (N := some 38) (v := ?_) (a' := ?_) #[true, true, true, true, true, false, false, false, false, false, false] rfl rfl (by kernel_rfl) (fun _ _ _ h => h) (Or.inl ⟨by rfl, ?_⟩) ?_ ?_
  rotate_left
  · intro w'
    go_simp
    with_reducible rfl
  rotate_left
  · simp only [Act.put, List.setIfInBounds_toArray, List.set_cons_zero, List.set_cons_succ, i64_w, i32_w]
    rfl
  refine take_ (i := 5) (N := some 39) (v := ?_) (a' := ?_) #[true, true, true, true, true, true, false, false, false, false, false] rfl rfl (by kernel_rfl) (fun _ _ _ h => h) (Or.inl ⟨by rfl, ?_⟩) hHeld ?_ ?_
  rotate_left
  · rintro w' ⟨s0, s1, s2⟩
    go_simp
    with_reducible rfl
  rotate_left
  · simp only [Act.put, List.setIfInBounds_toArray, List.set_cons_zero, List.set_cons_succ, i64_w, i32_w]
    rfl
  refine take_ (i := 6) (N := some 40) (v := ?_) (a' := ?_) #[true, true, true, true, true, true, true, false, false, false, false] rfl rfl (by kernel_rfl) (fun _ _ _ h => h) (Or.inl ⟨by rfl, ?_⟩) hHeld ?_ ?_
  rotate_left
  · rintro w' ⟨s0, s1, s2⟩
    go_simp
    with_reducible rfl
  rotate_left
  · simp only [Act.put, List.setIfInBounds_toArray, List.set_cons_zero, List.set_cons_succ, i64_w, i32_w]
    rfl
  refine one_ (i := 7) (N := some 41) #[true, true, true, true, true, true, true, true, false, false, false] rfl rfl (by kernel_rfl) (by decide) (fun K hK => ?_)
  refine goes_ Try.func41 (by kernel_rfl) rfl #[.pointer (some ⟨g, 0, none⟩), .slice A4 d.now.length c4, .agg #[.int .i64 i, .string s]] (by rfl) rfl rfl (by (try simp only [List.map_toArray, List.map_cons, List.map_nil]); first | done | rfl) ?_
  refine (dk_put.calls k g d.p d.room d.reads d.kept d.now d.pend d.left A4 c4 d.now i s r1 d.p d.room d.reads d.left #[.int .i64 d.p, .int .i64 d.room, .int .i64 d.reads, .slice A3 d.kept.length c3, .slice A4 d.now.length c4, .slice A5 d.pend.length c5, .int .i64 d.left] w0 _ ?hI ?hB ?hr HV.out.1 HF1.out HP.out).mono ?_
  case hI => repeat (first | exact HIP.out | apply IsP.drewN | apply IsP.drew)
  case hB => repeat (first | exact HB8.out | apply pw_below_drewN | apply below_drew1)
  case hr => repeat (first | exact HV.out.2 | (with_reducible refine Kd.C_alloc ?_ _) | (with_reducible refine Kd.C_drewN ?_ _) | (with_reducible refine Kd.C_drew ?_))
  rintro e w9 ⟨v9, rfl, ho9, hI9, hB9, hK9⟩
  obtain ⟨A9, c9, e9⟩ := Kd.R_slice ho9
  subst e9
  refine ⟨_, rfl, ?_⟩
  have k9 : w9.heap[gb]? = some (.cells #[.int .i64 i, .string s] 79 (0, 0)) := hK9.blk HH.out hgb (by simp)
  have y9 := blk_frozen hI9.1 4
  have z9 : w9.cell? ⟨g, 4, none⟩ = some (.slice A4 d.now.length c4) := (blk_cell hI9.1 4).trans rfl
  refine hK.out _ _ ⟨z9, (blk_cell k9 0).trans rfl, (blk_cell k9 1).trans rfl⟩ (fun hHeld => ?_)
  clear hK K
  refine norm_ (a' := ?_) ?_ ?_
  rotate_left
  · show Act.put _ (some 41) _ = _
    simp only [Act.put, List.setIfInBounds_toArray, List.set_cons_zero, List.set_cons_succ, i64_w, i32_w]
    rfl
  refine pure_ (i := 8) (N := some 42) (v := ?_) (a' := ?_) #[true, true, true, true, true, true, true, true, true, false, false] rfl rfl (by kernel_rfl) (fun _ _ _ h => h) (Or.inl ⟨by rfl, ?_⟩) ?_ ?_
  rotate_left
  · intro w'
    go_simp
    with_reducible rfl
  rotate_left
  · simp only [Act.put, List.setIfInBounds_toArray, List.set_cons_zero, List.set_cons_succ, i64_w, i32_w]
    rfl
  refine pure_ (i := 9) (N := some 43) (v := ?_) (a' := ?_) #[true, true, true, true, true, true, true, true, true, true, false] rfl rfl (by kernel_rfl) (fun _ _ _ h => h) (Or.inl ⟨by rfl, ?_⟩) ?_ ?_
  rotate_left
  · intro w'
    go_simp
    with_reducible rfl
  rotate_left
  · simp only [Act.put, List.setIfInBounds_toArray, List.set_cons_zero, List.set_cons_succ, i64_w, i32_w]
    rfl
  refine last_ (i := 10) (N := none) #[true, true, true, true, true, true, true, true, true, true, true] rfl rfl (by kernel_rfl) (by decide) (fun K hK => ?_)
  refine skip_ (w1 := w9.setCell ⟨g, 4, none⟩ (.slice A9 r1.length c9)) (by rfl) rfl ?hrun ?_
  case hrun => first | (go_simp; done) | (go_simp; rfl)
  refine hK.out _ _ ?_
  clear hK K
  refine done_ (by kernel_rfl) ?_
  have HD10 := Aside0.mk ((HD8.out.drew.keep hK9 (hI9.1.trans HIP.out.1.symm)).setNow ho9 HD8.out.lt HD8.out.own_lt HD8.out.fresh)
  have HH10 := Aside0.mk (show (w9.setCell ⟨g, 4, none⟩ (.slice A9 r1.length c9)).heap[gb]? = some (.cells #[.int .i64 i, .string s] 79 (0, 0)) from blk_far k9 hgb _)
  have HK10 := Aside0.mk (show Kp w (w9.setCell ⟨g, 4, none⟩ (.slice A9 r1.length c9)) g none from Kp.set_ (Kp.trans (Kp.trans HK.out (Kp.of_below hbw rfl g none) (.inl rfl)) (Kp.mk' hK9 HB8.out hB9) (.inl rfl)) 4 _)
  clear HD8 HIP HV HH HB8 hI9 hB9 hK9 k9 y9 z9 ho9 hHeld HF1 HP
  go_wp2
  have w10e : ∃ w10, w10 = (w9.setCell ⟨g, 4, none⟩ (.slice A9 r1.length c9)) := ⟨_, rfl⟩
  obtain ⟨w10, w10e⟩ := w10e
  rw [← w10e] at HD10 HH10 HK10 ⊢
  clear w10e
  obtain ⟨A3, c3, A4, c4, A5, c5, h0, hv1, hv2, hv3, hv4, hv5⟩ := HD10.out
  have z5 : w10.cell? ⟨g, 5, none⟩ = some (.slice A5 d.pend.length c5) := cellS67_5 h0
  have e0 : w10.cell? ⟨gb, 0, none⟩ = some (.int .i64 i) := (blk_cell HH10.out 0).trans rfl
  have e1 : w10.cell? ⟨gb, 1, none⟩ = some (.string s) := (blk_cell HH10.out 1).trans rfl
  have HV3 := Aside0.mk hv3
  have H0 := Aside0.mk h0
  have hv4' := hv4
  have hge5 : some g ≠ (Value.slice A5 d.pend.length c5).ownBlock := fun e => (hv3.1 g e.symm).1 rfl
  have hbe5 : some gb ≠ (Value.slice A5 d.pend.length c5).ownBlock := fun e => by have q := HOL.out gb (hv4.symm.trans e.symm); have := GB.out; omega
  clear h0 hv1 hv2 hv3 hv4 hv5
  refine start_ (n := 11) (S := fun w' => w'.cell? ⟨g, 5, none⟩ = some (.slice A5 d.pend.length c5) ∧ w'.cell? ⟨gb, 0, none⟩ = some (.int .i64 i) ∧ w'.cell? ⟨gb, 1, none⟩ = some (.string s)) (ds := [10]) #[false, false, false, false, false, false, false, false, false, false, false] (by kernel_rfl) rfl rfl ⟨z5, e0, e1⟩ (fun hHeld => ?_)
  refine pure_ (i := 0) (N := some 44) (v := ?_) (a' := ?_) #[true, false, false, false, false, false, false, false, false, false, false] rfl rfl (by kernel_rfl) (fun _ _ _ h => h) (Or.inl ⟨by rfl, ?_⟩) ?_ ?_
  rotate_left
  · intro w'
    go_simp
    with_reducible rfl
  rotate_left
  · simp only [Act.put, List.setIfInBounds_toArray, List.set_cons_zero, List.set_cons_succ, i64_w, i32_w]
    rfl
  refine pure_ (i := 1) (N := some 45) (v := ?_) (a' := ?_) #[true, true, false, false, false, false, false, false, false, false, false] rfl rfl (by kernel_rfl) (fun _ _ _ h => h) (Or.inl ⟨by rfl, ?_⟩) ?_ ?_
  rotate_left
  · intro w'
    go_simp
    with_reducible rfl
  rotate_left
  · simp only [Act.put, List.setIfInBounds_toArray, List.set_cons_zero, List.set_cons_succ, i64_w, i32_w]
    rfl
  refine pure_ (i := 2) (N := some 46) (v := ?_) (a' := ?_) #[true, true, true, false, false, false, false, false, false, false, false] rfl rfl (by kernel_rfl) (fun _ _ _ h => h) (Or.inl ⟨by rfl, ?_⟩) ?_ ?_
  rotate_left
  · intro w'
    go_simp
    with_reducible rfl
  rotate_left
  · simp only [Act.put, List.setIfInBounds_toArray, List.set_cons_zero, List.set_cons_succ, i64_w, i32_w]
    rfl
  refine pure_ (i := 3) (N := some 47) (v := ?_) (a' := ?_) #[true, true, true, true, false, false, false, false, false, false, false] rfl rfl (by kernel_rfl) (fun _ _ _ h => h) (Or.inl ⟨by rfl, ?_⟩) ?_ ?_
  rotate_left
  · intro w'
    go_simp
    with_reducible rfl
  rotate_left
  · simp only [Act.put, List.setIfInBounds_toArray, List.set_cons_zero, List.set_cons_succ, i64_w, i32_w]
    rfl
  refine take_ (i := 4) (N := some 48) (v := ?_) (a' := ?_) #[true, true, true, true, true, false, false, false, false, false, false] rfl rfl (by kernel_rfl) (fun _ _ _ h => h) (Or.inl ⟨by rfl, ?_⟩) hHeld ?_ ?_
  rotate_left
  · rintro w' ⟨s0, s1, s2⟩
    go_simp
    with_reducible rfl
  rotate_left
  · simp only [Act.put, List.setIfInBounds_toArray, List.set_cons_zero, List.set_cons_succ, i64_w, i32_w]
    rfl
  refine take_ (i := 5) (N := some 49) (v := ?_) (a' := ?_) #[true, true, true, true, true, true, false, false, false, false, false] rfl rfl (by kernel_rfl) (fun _ _ _ h => h) (Or.inl ⟨by rfl, ?_⟩) hHeld ?_ ?_
  rotate_left
  · rintro w' ⟨s0, s1, s2⟩
    go_simp
    with_reducible rfl
  rotate_left
  · simp only [Act.put, List.setIfInBounds_toArray, List.set_cons_zero, List.set_cons_succ, i64_w, i32_w]
    rfl
  refine one_ (i := 6) (N := some 50) #[true, true, true, true, true, true, true, false, false, false, false] rfl rfl (by kernel_rfl) (by decide) (fun K hK => ?_)
  refine value_ (w1 := ?_) (v := ?_) (by rfl) rfl ?_ ?_
  rotate_left 2
  · go_simp
    constructor
    · rfl
    · rfl
  refine hK.out _ _ ⟨(World.cell?_alloc_lt _ _ _ (World.block_lt_of_cell? _ _ z5)).trans z5, (World.cell?_alloc_lt _ _ _ (World.block_lt_of_cell? _ _ e0)).trans e0, (World.cell?_alloc_lt _ _ _ (World.block_lt_of_cell? _ _ e1)).trans e1⟩ (fun hHeld => ?_)
  clear hK K
  refine norm_ (a' := ?_) ?_ ?_
  rotate_left
  · show Act.put _ (some 50) _ = _
    simp only [Act.put, List.setIfInBounds_toArray, List.set_cons_zero, List.set_cons_succ, i64_w, i32_w]
    rfl
  refine one_ (i := 7) (N := some 51) #[true, true, true, true, true, true, true, true, false, false, false] rfl rfl (by kernel_rfl) (by decide) (fun K hK => ?_)
  refine Kd.R_append_step k79 (w0 := w10.drew) (W := w10.drew) 0 (by rfl) (.tmp 48) (.tmp 50) 65 79 (.agg #[.int .i64 0, .string ⟨#[]⟩]) 24 rfl Try.underlying65 info79 rfl (by decide) (by omega) (.slice A5 d.pend.length c5) d.pend ⟨i, s⟩ [.int .i64 i, .string s] (fun k => k ≠ g ∧ d.M k) (fun _ => False) rfl rfl ?aP (fun _ hk => hk.elim) ?aF ?aO ?aB ?aS ?aL ?_
  case aP => exact k79_mkM _ _ _ _
  case aB => exact Below.refl 0 _
  case aF => exact fun k hk => ⟨by have := HD10.out.lt; simp at hk; omega, HD10.out.fresh k hk⟩
  case aO => exact Kd.R_drew HV3.out
  case aS => exact Nat.zero_le _
  case aL => have := HPL.out; omega
  intro v11 w11 ho11 hb11 hg11 hat11
  obtain ⟨A11, c11, e11⟩ := Kd.R_slice ho11
  subst e11
  have H0d : w10.drew.heap[g]? = _ := H0.out
  have HHd : w10.drew.heap[gb]? = _ := HH10.out
  have z11 : w11.cell? ⟨g, 5, none⟩ = some (.slice A5 d.pend.length c5) := (blk_cell (blk_grown H0d hg11 hge5) 5).trans rfl
  have y11 := blk_frozen (blk_grown H0d hg11 hge5) 5
  have k11 := blk_grown HHd hg11 hbe5
  refine hK.out _ _ ⟨z11, (blk_cell k11 0).trans rfl, (blk_cell k11 1).trans rfl⟩ (fun hHeld => ?_)
  clear hK K
  refine norm_ (a' := ?_) ?_ ?_
  rotate_left
  · show Act.put _ (some 51) _ = _
    simp only [Act.put, List.setIfInBounds_toArray, List.set_cons_zero, List.set_cons_succ, i64_w, i32_w]
    rfl
  refine pure_ (i := 8) (N := some 52) (v := ?_) (a' := ?_) #[true, true, true, true, true, true, true, true, true, false, false] rfl rfl (by kernel_rfl) (fun _ _ _ h => h) (Or.inl ⟨by rfl, ?_⟩) ?_ ?_
  rotate_left
  · intro w'
    go_simp
    with_reducible rfl
  rotate_left
  · simp only [Act.put, List.setIfInBounds_toArray, List.set_cons_zero, List.set_cons_succ, i64_w, i32_w]
    rfl
  refine pure_ (i := 9) (N := some 53) (v := ?_) (a' := ?_) #[true, true, true, true, true, true, true, true, true, true, false] rfl rfl (by kernel_rfl) (fun _ _ _ h => h) (Or.inl ⟨by rfl, ?_⟩) ?_ ?_
  rotate_left
  · intro w'
    go_simp
    with_reducible rfl
  rotate_left
  · simp only [Act.put, List.setIfInBounds_toArray, List.set_cons_zero, List.set_cons_succ, i64_w, i32_w]
    rfl
  refine last_ (i := 10) (N := none) #[true, true, true, true, true, true, true, true, true, true, true] rfl rfl (by kernel_rfl) (by decide) (fun K hK => ?_)
  refine skip_ (w1 := w11.setCell ⟨g, 5, none⟩ (.slice A11 (d.pend ++ [(⟨i, s⟩ : S79)]).length c11)) (by rfl) rfl ?hrun ?_
  case hrun => first | (go_simp; done) | (go_simp; rfl)
  refine hK.out _ _ ?_
  clear hK K
  refine done_ (by kernel_rfl) ?_
  have HD12 := Aside0.mk (HD10.out.drew.setPend ho11 (by rw [← hv4']; exact hg11) (by rw [← hv4']; exact hat11))
  have HM12 := Aside0.mk (show Mv w (w11.setCell ⟨g, 5, none⟩ (.slice A11 (d.pend ++ [(⟨i, s⟩ : S79)]).length c11)) g own (Value.slice A11 (d.pend ++ [(⟨i, s⟩ : S79)]).length c11).ownBlock from (Mv.of_none HK10.out).trans ⟨⟨⟨by have := hg11.size; simpa using this, fun k hk hg ho => by rw [Below.heap_setCell _ _ _ _ hg]; exact hg11.block k hk (by rw [hv4']; exact ho)⟩, ⟨hb11.os, hb11.tape, hb11.output⟩⟩, by rw [← hv4']; exact hat11⟩)
  obtain ⟨w12, w12e⟩ : ∃ w12, w12 = (w11.setCell ⟨g, 5, none⟩ (.slice A11 (d.pend ++ [(⟨i, s⟩ : S79)]).length c11)) := ⟨_, rfl⟩
  rw [← w12e] at HD12 HM12 ⊢
  clear w12e
  clear H0d HHd HD10 HK10 HH10 HV3 H0 hv4' hge5 hbe5 z11 y11 k11 z5 e0 e1 ho11 hb11 hg11 hat11 HPL HOL hbw GB
  go_wp2_with (first | (go_at_call 42; refine (dk_done _ g _ _ (by repeat (first | exact HD12.out | apply DkAt.alloc | apply DkAt.drewN | apply DkAt.drew))).mono ?_; rintro e w13 ⟨rfl, h1, k1⟩; have HI := Aside0.mk h1; have HM := Aside0.mk (HM12.out.trans (Mv.of_none k1)); clear HD12 HM12 h1 k1))
  go_ret
  exact ⟨by first | rfl | (simp; done), _, by repeat (first | exact HI.out | apply DkAt.alloc | apply DkAt.drewN | apply DkAt.drew), by repeat (first | exact HM.out | apply Mv.drewN | apply Mv.drew)⟩
end Go.Proofs.Ytnmdpjbpbiempaa.P
