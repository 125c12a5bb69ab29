/- What is proved here: what a crash does to a disk in memory. Conditions: as the theorem names them. -/
import Derived.Test.YtnmdpjbpbiempaaDkC
set_option linter.unusedVariables false
set_option linter.unusedSimpArgs false
namespace Go.Proofs.Ytnmdpjbpbiempaa.P
open Go.RowKit Go.Proofs.YtnmdpjbpbiempaaW.PrintWords Go.Proofs.YtnmdpjbpbiempaaW.PrintLast Go.Proofs.YtnmdpjbpbiempaaW.PrintMore Go.Proofs.YtnmdpjbpbiempaaRange
attribute [local go_sem] Oper.semAt_some
/-- Where the lists may stand while the choices are gone through: not in the crash's own five blocks. -/
def crashM (w : World) (d : Dk) (k : Nat) : Prop := d.M k ∧ (k < w.heap.size ∨ w.heap.size + 5 ≤ k)
/-- What lies in memory between two rounds of a crash. -/
structure CrashAt (w : World) (rec : LoopRec) (g : Nat) (own : Option Nat) (d : Dk) (A5 : Option Addr) (c5 : Nat) (Al : Option Addr) (nl cl : Nat) (wr : World) (ks : List ByteArray) : Prop where
  dk : DkAt wr g own { d with kept := ks, M := crashM w d }
  pd : wr.cell? ⟨g, 5, none⟩ = some (.slice A5 d.pend.length c5)
  b0 : wr.heap[w.heap.size]? = some (.cells #[.pointer (some ⟨g, 0, none⟩)] 25 (0, 0))
  b1 : wr.heap[w.heap.size + 1]? = some (.cells #[.pointer (some ⟨g, 0, none⟩)] 25 (0, 0))
  b2 : wr.heap[w.heap.size + 2]? = some (.cells #[.slice Al nl cl] 35 (0, 0))
  dd : wr.heap[w.heap.size + 3]? = some (.deferred (some []))
  lp : wr.heap[w.heap.size + 4]? = some (.loop (rec .ready none))
  kb : Kp w wr g none
  glt : g < w.heap.size
def intOfV : Value → Nat | .int _ i => i.toNat | _ => 0
theorem cell_same {W W' : World} {a : Addr} (h : W'.heap[a.block]? = W.heap[a.block]?) : W'.cell? a = W.cell? a := by unfold World.cell?; rw [h]
theorem CrashAt.next {w : World} {rec : LoopRec} {g : Nat} {own : Option Nat} {d : Dk} {A5 : Option Addr} {c5 : Nat} {Al : Option Addr} {nl cl : Nat} {wr wr' : World} {ks : List ByteArray} (h : CrashAt w rec g own d A5 c5 Al nl cl wr ks) (hb : Below wr.heap.size wr wr') : CrashAt w rec g own d A5 c5 Al nl cl wr' ks :=
  ⟨h.dk.below hb, (cell_same (hb.block _ h.dk.lt)).trans h.pd, blk_below h.b0 hb, blk_below h.b1 hb, blk_below h.b2 hb, blk_below h.dd hb, blk_below h.lp hb, h.kb.trans (Kp.of_below hb rfl g none) (.inl rfl), h.glt⟩
theorem CrashAt.drew {w : World} {rec : LoopRec} {g : Nat} {own : Option Nat} {d : Dk} {A5 : Option Addr} {c5 : Nat} {Al : Option Addr} {nl cl : Nat} {wr : World} {ks : List ByteArray} (h : CrashAt w rec g own d A5 c5 Al nl cl wr ks) : CrashAt w rec g own d A5 c5 Al nl cl wr.drew ks := h.next (below_drew1 (Below.refl _ _))
/-- A block laid aside: none of the lists stands in it. -/
theorem DkAt.aside {W : World} {g : Nat} {own : Option Nat} {d : Dk} (h : DkAt W g own d) (o : Obj) : DkAt (W.alloc o) g own { d with M := fun k => d.M k ∧ k ≠ W.heap.size } := by
  obtain ⟨A3, c3, A4, c4, A5, c5, h0, h1, h2, h3, h4, h5⟩ := h
  have bel : Below W.heap.size W (W.alloc o) := below_alloc (Below.refl _ _) _
  exact ⟨A3, c3, A4, c4, A5, c5, (bel.block _ (blk_lt h0)).trans h0, Kd.V_mono (Kd.V_below (Kd.V_bound h1) bel) (fun k hk => ⟨hk.1.1, hk.1.2.1, hk.1.2.2, by omega⟩), Kd.V_mono (Kd.V_below (Kd.V_bound h2) bel) (fun k hk => ⟨hk.1.1, hk.1.2.1, hk.1.2.2, by omega⟩), Kd.R_mono (Kd.R_below (Kd.R_bound h3) bel) (fun k hk => ⟨hk.1.1, hk.1.2, by omega⟩), h4, fun k hk => ⟨h5 k (by simp at hk; omega), by simp at hk; omega⟩⟩
/-- A store into a block aside. -/
theorem CrashAt.far {w : World} {rec : LoopRec} {g : Nat} {own : Option Nat} {d : Dk} {A5 : Option Addr} {c5 : Nat} {Al : Option Addr} {nl cl : Nat} {wr : World} {ks : List ByteArray} (h : CrashAt w rec g own d A5 c5 Al nl cl wr ks) {gb : Nat} (hD : DkAt wr g own { d with kept := ks, M := fun k => crashM w d k ∧ k ≠ gb }) (hgb : w.heap.size + 5 ≤ gb) (j : Nat) (u : Value) : CrashAt w rec g own d A5 c5 Al nl cl (wr.setCell ⟨gb, j, none⟩ u) ks := by
  have hg := h.glt
  have hs : (wr.setCell ⟨gb, j, none⟩ u).heap.size = wr.heap.size := by simp [World.setCell]
  have hh : ∀ k, k ≠ gb → (wr.setCell ⟨gb, j, none⟩ u).heap[k]? = wr.heap[k]? := fun k hk => Below.heap_setCell _ _ _ k hk
  have q : DkAt (wr.setCell ⟨gb, j, none⟩ u) g own { d with kept := ks, M := fun k => crashM w d k ∧ k ≠ gb } := hD.step (by omega) (fun k hk ho => hh k (by
    rcases ho with rfl | ho
    · omega
    · exact ho.2))
  exact ⟨q.reM (crashM w d) (fun k _ hm => hm.1) (fun k hk => h.dk.fresh k (by omega)), (cell_same (hh g (by omega))).trans h.pd, (hh _ (by omega)).trans h.b0, (hh _ (by omega)).trans h.b1, (hh _ (by omega)).trans h.b2, (hh _ (by omega)).trans h.dd, (hh _ (by omega)).trans h.lp, kp_far h.kb (by show w.heap.size ≤ gb; omega) u, hg⟩
set_option maxHeartbeats 4000000 in
theorem dk_outcomes.calls (A : Option Addr) (Al : Option Addr) (nl cl : Nat) (w : World) :
    Calls Try.prog 43 #[.pointer A, .slice Al nl cl] w fun e w' => e = .returned (.func (.func 50) #[] #[.pointer (some ⟨w.heap.size, 0, none⟩), .pointer (some ⟨w.heap.size + 1, 0, none⟩)]) ∧ w' = (w.alloc (.cells #[.pointer A] 25)).alloc (.cells #[.slice Al nl cl] 35) := by
  go_enter Try.func43, Try.ntmps43
  go_wp2
  go_ret
  exact ⟨rfl, rfl⟩
set_option maxHeartbeats 8000000 in
set_option maxRecDepth 100000 in
theorem dk_Crash (w : World) (g : Nat) (own : Option Nat) (d : Dk) (Al : Option Addr) (cl : Nat) (l : List Ch) (h : DkAt w g own d) (hok : d.Ok) (hl : Kd.V kCh 54 w 0 (fun k => k ≠ g) (.slice Al l.length cl) l) (hll : l.length < 1099511627776) :
    Calls Try.prog 27 #[.pointer (some ⟨g, 0, none⟩), .slice Al l.length cl] w fun e w' => e = .returned (.tuple #[]) ∧ DkAt w' g none { d with kept := crashL d.p d.kept d.pend l, now := crashL d.p d.kept d.pend l, pend := [], left := -1 } ∧ Kp w w' g none := by
  refine (callsIn_wide (n := 9)).1 ?_
  refine callsIn_of_wp_marks Try.func27 rfl trivial ?_ rfl
  simp only [Try.ntmps27, List.size_toArray, List.length_cons, List.length_nil, Nat.reduceAdd, Nat.reduceSub, Array.replicate_succ, Array.replicate_zero, List.push_toArray, List.append_toArray, List.nil_append, List.cons_append]
  gi_wp2_with (refine ⟨trivial, ?_⟩; gi_at_call 43; refine (callsIn_wide.2 (dk_outcomes.calls _ Al _ cl _)).mono ?_; rintro e w' ⟨rfl, rfl⟩)
  obtain ⟨W0, hW0⟩ : ∃ W0, ((w.alloc (.cells #[.pointer (some ⟨g, 0, none⟩)] 25)).alloc (.cells #[.pointer (some ⟨g, 0, none⟩)] 25)).alloc (.cells #[.slice Al l.length cl] 35) = W0 := ⟨_, rfl⟩
  have hz : W0.heap.size = w.heap.size + 3 := by rw [← hW0]; simp
  have b0 : W0.heap[w.heap.size]? = some (.cells #[.pointer (some ⟨g, 0, none⟩)] 25 (0, 0)) := by rw [← hW0]; exact blk_alloc (blk_alloc (blk_new w _) _) _
  have b1 : W0.heap[w.heap.size + 1]? = some (.cells #[.pointer (some ⟨g, 0, none⟩)] 25 (0, 0)) := by
    rw [← hW0]; have := blk_new (w.alloc (.cells #[.pointer (some ⟨g, 0, none⟩)] 25)) (.cells #[.pointer (some ⟨g, 0, none⟩)] 25); rw [World.size_alloc] at this; exact blk_alloc this _
  have b2 : W0.heap[w.heap.size + 2]? = some (.cells #[.slice Al l.length cl] 35 (0, 0)) := by
    rw [← hW0]; have := blk_new ((w.alloc (.cells #[.pointer (some ⟨g, 0, none⟩)] 25)).alloc (.cells #[.pointer (some ⟨g, 0, none⟩)] 25)) (.cells #[.slice Al l.length cl] 35); rw [World.size_alloc, World.size_alloc] at this; exact this
  have bel0 : Below w.heap.size w W0 := by rw [← hW0]; exact below_alloc (below_alloc (below_alloc (Below.refl _ _) _) _) _
  (try simp only [World.size_alloc])
  rw [hW0]
  clear hW0
  refine rangeFunc_walk (gf := 50) (lb := #[.pointer (some ⟨w.heap.size + 1, 0, none⟩), .pointer (some ⟨w.heap.size + 2, 0, none⟩)]) rfl (by decide) rfl trivial (enters_of Try.func50 (by kernel_rfl) rfl) ?_
  intro rec hY
  rw [hz] at hY ⊢
  obtain ⟨A5, c5, h5c⟩ : ∃ A5 c5, w.cell? ⟨g, 5, none⟩ = some (.slice A5 d.pend.length c5) := by
    obtain ⟨A3, c3, A4, c4, A5, c5, h0, -⟩ := h
    exact ⟨A5, c5, cellS67_5 h0⟩
  have hglt := h.lt
  have hC0 : CrashAt w rec g own d A5 c5 Al l.length cl ((W0.alloc (.deferred (some []))).alloc (.loop (rec .ready none))) d.kept := by
    have n1 := blk_new W0 (.deferred (some []))
    have n2 := blk_new (W0.alloc (.deferred (some []))) (.loop (rec .ready none))
    rw [World.size_alloc, hz] at n2
    rw [hz] at n1
    have bel1 : Below w.heap.size w ((W0.alloc (.deferred (some []))).alloc (.loop (rec .ready none))) := below_alloc (below_alloc bel0 _) _
    have hD1 : DkAt ((W0.alloc (.deferred (some []))).alloc (.loop (rec .ready none))) g own { d with kept := d.kept, M := crashM w d } := by
      have q1 : DkAt w g own { d with M := fun k => d.M k ∧ k < w.heap.size ∨ w.heap.size ≤ k } := h.reM _ (fun k hk hm => .inl ⟨hm, hk⟩) (fun k hk => .inr hk)
      obtain ⟨B3, e3, B4, e4, B5, e5, k0, k1, k2, k3, k4, k5⟩ := h
      refine ⟨B3, e3, B4, e4, B5, e5, (bel1.block _ (blk_lt k0)).trans k0, Kd.V_mono (Kd.V_below (Kd.V_bound k1) bel1) (fun k hk => ⟨hk.1.1, hk.1.2.1, hk.1.2.2, .inl hk.2⟩), Kd.V_mono (Kd.V_below (Kd.V_bound k2) bel1) (fun k hk => ⟨hk.1.1, hk.1.2.1, hk.1.2.2, .inl hk.2⟩), Kd.R_mono (Kd.R_below (Kd.R_bound k3) bel1) (fun k hk => ⟨hk.1.1, hk.1.2, .inl hk.2.2.1⟩), k4, fun k hk => ?_⟩
      have hk' : w.heap.size + 5 ≤ k := by simp at hk; omega
      exact ⟨k5 k (by omega), .inr hk'⟩
    exact ⟨hD1, (cell_same (bel1.block _ hglt)).trans h5c, blk_alloc (blk_alloc b0 _) _, blk_alloc (blk_alloc b1 _) _, blk_alloc (blk_alloc b2 _) _, blk_alloc n1 _, n2, Kp.of_below bel1 rfl g none, hglt⟩
  clear b0 b1 b2 bel0
  generalize (W0.alloc (.deferred (some []))).alloc (.loop (rec .ready none)) = W1 at hC0 ⊢
  have hYield : ∀ (wr : World) (ks : List ByteArray) (i : Int) (s : ByteArray), CrashAt w rec g own d A5 c5 Al l.length cl wr ks → ks.length < 1099511627776 → 0 ≤ i → i < 1099511627776 →
      YieldAt Fence.wide 7 Try.prog (w.heap.size + 4) #[.agg #[.int .i64 i, .string s]] wr fun e W' => e = .returned (.bool true) ∧ CrashAt w rec g own d A5 c5 Al l.length cl W' (putL d.p ks i s) := by
    intro wr ks i s hC hlen hi0 hi1
    have hu79 := Try.underlying79
    refine hY wr _ _ rfl hC.lp ?_
    simp only [List.zip_toArray, List.zip_cons_cons, List.zip_nil_right, List.zip_nil_left, List.foldl_toArray', List.foldl_cons, List.foldl_nil, List.setIfInBounds_toArray, List.set_cons_zero, List.set_cons_succ, List.size_toArray, List.length_cons, List.length_nil, Nat.reduceAdd]
    gi_wp2
    -- MARK 1
    have lpA : (wr.alloc (.cells #[.int .i64 i, .string s] 79)).heap[w.heap.size + 4]? = some (.loop (rec .ready none)) := blk_alloc hC.lp _
    refine ⟨lpA, ?_⟩
    have hlpw := blk_lt hC.lp
    obtain ⟨gb, hgb⟩ : ∃ gb, gb = wr.heap.size := ⟨_, rfl⟩
    obtain ⟨W2, hW2⟩ : ∃ W2, (wr.alloc (.cells #[.int .i64 i, .string s] 79)).putObj (w.heap.size + 3 + 1) (.loop (rec .busy none)) = W2 := ⟨_, rfl⟩
    have hgbk : W2.heap[gb]? = some (.cells #[.int .i64 i, .string s] 79 (0, 0)) := by rw [← hW2, hgb]; exact (World.putObj_heap_other (by omega)).trans (blk_new wr _)
    have l2 : W2.heap[w.heap.size + 4]? = some (.loop (rec .busy none)) := by rw [← hW2]; exact World.putObj_heap_same (blk_lt lpA)
    have o2 : ∀ k, k < wr.heap.size → k ≠ w.heap.size + 4 → W2.heap[k]? = wr.heap[k]? := fun k h1 h2 => by rw [← hW2]; exact (World.putObj_heap_other (by omega)).trans (Below.heap_alloc wr _ k h1)
    have sz2 : W2.heap.size = wr.heap.size + 1 := by rw [← hW2]; simp
    have hE2 : Env wr W2 := by rw [← hW2]; exact ⟨rfl, rfl, rfl⟩
    rw [hW2, ← hgb]
    clear hW2 lpA
    have hgl := hC.glt
    have hD2 : DkAt W2 g own { d with kept := ks, M := crashM w d } := hC.dk.step (by omega) (fun k hk ho => o2 k hk (by
      rcases ho with rfl | ho
      · omega
      · rcases ho.2 with q | q <;> omega))
    have HD2 := Aside0.mk hD2
    have HE2 := Aside0.mk hE2
    obtain ⟨w0, hB, hge⟩ := w_zero W2 g
    obtain ⟨A3, c3, A4, c4, A5', c5', h0, hv1, hv2, hv3, hv4, hv5⟩ := hD2
    have e5a : W2.cell? ⟨g, 5, none⟩ = some (.slice A5 d.pend.length c5) := (cell_same (o2 g (by omega) (by omega))).trans hC.pd
    have e5b : W2.cell? ⟨g, 5, none⟩ = some (.slice A5' d.pend.length c5') := cellS67_5 h0
    have e5 : some (Value.slice A5' d.pend.length c5') = some (Value.slice A5 d.pend.length c5) := e5b.symm.trans e5a
    injection e5 with e5
    injection e5 with e5x e5y e5z
    subst e5x
    subst e5z
    have z3 : W2.cell? ⟨g, 3, none⟩ = some (.slice A3 ks.length c3) := cellS67_3 h0
    have y3 := blk_frozen h0 3
    have hb0 : W2.heap[w.heap.size]? = some (.cells #[.pointer (some ⟨g, 0, none⟩)] 25 (0, 0)) := (o2 _ (by omega) (by omega)).trans hC.b0
    have zb : W2.cell? ⟨w.heap.size, 0, none⟩ = some (.pointer (some ⟨g, 0, none⟩)) := (blk_cell hb0 0).trans rfl
    have e0 : W2.cell? ⟨gb, 0, none⟩ = some (.int .i64 i) := (blk_cell hgbk 0).trans rfl
    have e1 : W2.cell? ⟨gb, 1, none⟩ = some (.string s) := (blk_cell hgbk 1).trans rfl
    have HF1 := Aside0.mk (show ∀ ad, A3 = some ad → 0 < ks.length → ad.block ≠ g from fun ad e hn => by
      subst e
      exact Kd.foot_ne (d := Kd.string) (fun W' hk => (Kd.V_reads' (Kd.V_step hv1 (fun k ho hk' => hk.2 k hk' ho.1 (by simp)))).2.2) hn (by decide))
    have HIP := Aside0.mk (show IsP w0 W2 g #[.int .i64 d.p, .int .i64 d.room, .int .i64 d.reads, .slice A3 ks.length c3, .slice A4 d.now.length c4, .slice A5' d.pend.length c5', .int .i64 d.left] d.p from ⟨h0, hge, rfl⟩)
    have HV := Aside0.mk (Kd.V_reads' hv1).2
    have HGB := Aside0.mk hgbk
    have HB0 := Aside0.mk hb0
    have HB2 := Aside0.mk hB
    have HGL := Aside0.mk hgl
    have hgb' : gb ≠ g := by omega
    have HP := Aside0.mk (put_f d.p d.room d.reads d.left ks d.now d.pend ks i s hi0 hi1 hok.few.p0 hok.few.p1 hlen)
    have HO2 := Aside0.mk o2
    have HC := Aside0.mk hC
    have HL2 := Aside0.mk l2
    have HW := Aside0.mk hlpw
    have HGE := Aside0.mk hgb
    clear h0 hv1 hv2 hv3 hv4 hv5 e5a e5b e5y hb0 hgbk hB hgl hC o2 l2 hlpw hgb
    replace hgb := hgb'
    clear hgb'
    refine wpIn_block ?_
    refine startR_ (m := 11) (S := fun w' => w'.cell? ⟨w.heap.size, 0, none⟩ = some (.pointer (some ⟨g, 0, none⟩)) ∧ w'.cell? ⟨g, 3, none⟩ = some (.slice A3 ks.length c3) ∧ w'.cell? ⟨gb, 0, none⟩ = some (.int .i64 i) ∧ w'.cell? ⟨gb, 1, none⟩ = some (.string s)) (ds := [10]) #[false, false, false, false, false, false, false, false, false, false, false] (by kernel_rfl) rfl (by kernel_rfl) (by rintro ⟨a, w, h⟩; exact h) rfl ⟨zb, z3, e0, e1⟩ (fun hHeld => ?_)
    refine take_ (i := 0) (N := some 9) (v := ?_) (a' := ?_) #[true, false, false, false, false, false, false, false, false, false, false] rfl rfl (by kernel_rfl) (fun _ _ _ h => h) (Or.inl ⟨by rfl, ?_⟩) hHeld ?_ ?_
    rotate_left
    · rintro w' ⟨s0, s1, s2, s3⟩
      go_simp
      with_reducible rfl
    rotate_left
    · simp only [Act.put, List.setIfInBounds_toArray, List.set_cons_zero, List.set_cons_succ, i64_w, i32_w]
      rfl
    refine take_ (i := 1) (N := some 10) (v := ?_) (a' := ?_) #[true, true, false, false, false, false, false, false, false, false, false] rfl rfl (by kernel_rfl) (fun _ _ _ h => h) (Or.inl ⟨by rfl, ?_⟩) hHeld ?_ ?_
    rotate_left
    · rintro w' ⟨s0, s1, s2, s3⟩
      go_simp
      with_reducible rfl
    rotate_left
    · simp only [Act.put, List.setIfInBounds_toArray, List.set_cons_zero, List.set_cons_succ, i64_w, i32_w]
      rfl
    refine take_ (i := 2) (N := some 11) (v := ?_) (a' := ?_) #[true, true, true, false, false, false, false, false, false, false, false] rfl rfl (by kernel_rfl) (fun _ _ _ h => h) (Or.inl ⟨by rfl, ?_⟩) hHeld ?_ ?_
    rotate_left
    · rintro w' ⟨s0, s1, s2, s3⟩
      go_simp
      with_reducible rfl
    rotate_left
    · simp only [Act.put, List.setIfInBounds_toArray, List.set_cons_zero, List.set_cons_succ, i64_w, i32_w]
      rfl
    refine pure_ (i := 3) (N := some 12) (v := ?_) (a' := ?_) #[true, true, true, true, false, false, false, false, false, false, false] rfl rfl (by kernel_rfl) (fun _ _ _ h => h) (Or.inl ⟨by rfl, ?_⟩) ?_ ?_
    rotate_left
    · intro w'
      go_simp
      with_reducible rfl
    rotate_left
    · simp only [Act.put, List.setIfInBounds_toArray, List.set_cons_zero, List.set_cons_succ, i64_w, i32_w]
      rfl
    refine pure_ (i := 4) (N := some 13) (v := ?_) (a' := ?_) #[true, true, true, true, true, false, false, false, false, false, false] rfl rfl (by kernel_rfl) (fun _ _ _ h => h) (Or.inl ⟨by rfl, ?_⟩) ?_ ?_
    rotate_left
    · intro w'
      go_simp
      with_reducible rfl
    rotate_left
    · simp only [Act.put, List.setIfInBounds_toArray, List.set_cons_zero, List.set_cons_succ, i64_w, i32_w]
      rfl
    refine take_ (i := 5) (N := some 14) (v := ?_) (a' := ?_) #[true, true, true, true, true, true, false, false, false, false, false] rfl rfl (by kernel_rfl) (fun _ _ _ h => h) (Or.inl ⟨by rfl, ?_⟩) hHeld ?_ ?_
    rotate_left
    · rintro w' ⟨s0, s1, s2, s3⟩
      go_simp
      with_reducible rfl
    rotate_left
    · simp only [Act.put, List.setIfInBounds_toArray, List.set_cons_zero, List.set_cons_succ, i64_w, i32_w]
      rfl
    refine take_ (i := 6) (N := some 15) (v := ?_) (a' := ?_) #[true, true, true, true, true, true, true, false, false, false, false] rfl rfl (by kernel_rfl) (fun _ _ _ h => h) (Or.inl ⟨by rfl, ?_⟩) hHeld ?_ ?_
    rotate_left
    · rintro w' ⟨s0, s1, s2, s3⟩
      go_simp
      with_reducible rfl
    rotate_left
    · simp only [Act.put, List.setIfInBounds_toArray, List.set_cons_zero, List.set_cons_succ, i64_w, i32_w]
      rfl
    refine one_ (i := 7) (N := some 16) #[true, true, true, true, true, true, true, true, false, false, false] rfl rfl (by kernel_rfl) (by decide) (fun K hK => ?_)
    refine goes_ Try.func41 (by kernel_rfl) rfl #[.pointer (some ⟨g, 0, none⟩), .slice A3 ks.length c3, .agg #[.int .i64 i, .string s]] (by rfl) rfl rfl (by (try simp only [List.map_toArray, List.map_cons, List.map_nil]); first | done | rfl) ?_
    refine (dk_put.calls (i.toNat + 1 - ks.length + 1) g d.p d.room d.reads ks d.now d.pend d.left A3 c3 ks i s (putL d.p ks i s) d.p d.room d.reads d.left #[.int .i64 d.p, .int .i64 d.room, .int .i64 d.reads, .slice A3 ks.length c3, .slice A4 d.now.length c4, .slice A5' d.pend.length c5', .int .i64 d.left] w0 _ ?hI ?hB ?hr HV.out.1 HF1.out HP.out).mono ?_
    case hI => repeat (first | exact HIP.out | apply IsP.drewN | apply IsP.drew)
    case hB => repeat (first | exact HB2.out | apply pw_below_drewN | apply below_drew1)
    case hr => repeat (first | exact HV.out.2 | (with_reducible refine Kd.C_alloc ?_ _) | (with_reducible refine Kd.C_drewN ?_ _) | (with_reducible refine Kd.C_drew ?_))
    rintro e w9 ⟨v9, rfl, ho9, hI9, hB9, hK9⟩
    obtain ⟨A9, c9, e9⟩ := Kd.R_slice ho9
    subst e9
    refine ⟨_, rfl, ?_⟩
    have k9 : w9.heap[gb]? = some (.cells #[.int .i64 i, .string s] 79 (0, 0)) := hK9.blk HGB.out hgb (by simp)
    have kb9 : w9.heap[w.heap.size]? = some (.cells #[.pointer (some ⟨g, 0, none⟩)] 25 (0, 0)) := hK9.blk HB0.out (by have := HGL.out; omega) (by simp)
    have y9 := blk_frozen hI9.1 3
    have z9 : w9.cell? ⟨g, 3, none⟩ = some (.slice A3 ks.length c3) := (blk_cell hI9.1 3).trans rfl
    refine hK.out _ _ ⟨(blk_cell kb9 0).trans rfl, z9, (blk_cell k9 0).trans rfl, (blk_cell k9 1).trans rfl⟩ (fun hHeld => ?_)
    clear hK K
    refine norm_ (a' := ?_) ?_ ?_
    rotate_left
    · show Act.put _ (some 16) _ = _
      simp only [Act.put, List.setIfInBounds_toArray, List.set_cons_zero, List.set_cons_succ, i64_w, i32_w]
      rfl
    refine pure_ (i := 8) (N := some 17) (v := ?_) (a' := ?_) #[true, true, true, true, true, true, true, true, true, false, false] rfl rfl (by kernel_rfl) (fun _ _ _ h => h) (Or.inl ⟨by rfl, ?_⟩) ?_ ?_
    rotate_left
    · intro w'
      go_simp
      with_reducible rfl
    rotate_left
    · simp only [Act.put, List.setIfInBounds_toArray, List.set_cons_zero, List.set_cons_succ, i64_w, i32_w]
      rfl
    refine pure_ (i := 9) (N := some 18) (v := ?_) (a' := ?_) #[true, true, true, true, true, true, true, true, true, true, false] rfl rfl (by kernel_rfl) (fun _ _ _ h => h) (Or.inl ⟨by rfl, ?_⟩) ?_ ?_
    rotate_left
    · intro w'
      go_simp
      with_reducible rfl
    rotate_left
    · simp only [Act.put, List.setIfInBounds_toArray, List.set_cons_zero, List.set_cons_succ, i64_w, i32_w]
      rfl
    refine last_ (i := 10) (N := none) #[true, true, true, true, true, true, true, true, true, true, true] rfl rfl (by kernel_rfl) (by decide) (fun K hK => ?_)
    refine skip_ (w1 := w9.setCell ⟨g, 3, none⟩ (.slice A9 (putL d.p ks i s).length c9)) (by rfl) rfl ?hrun ?_
    case hrun => first | (go_simp; done) | (go_simp; rfl)
    refine hK.out _ _ ?_
    clear hK K
    refine done_ (by kernel_rfl) ?_
    -- MARK 2
    have hO9 : ∀ k, k < wr.heap.size → k ≠ w.heap.size + 4 → k ≠ g → w9.heap[k]? = wr.heap[k]? := fun k h1 h2 h3 => (hK9.2 k (by show k < W2.heap.size; omega) h3 (by simp)).trans (HO2.out k h1 h2)
    have hsz9 : W2.heap.size ≤ w9.heap.size := hK9.1
    have hD10 : DkAt (w9.setCell ⟨g, 3, none⟩ (.slice A9 (putL d.p ks i s).length c9)) g own { d with kept := putL d.p ks i s, M := crashM w d } := (HD2.out.drew.keep hK9 (hI9.1.trans HIP.out.1.symm)).setKept ho9 HD2.out.lt HD2.out.own_lt HD2.out.fresh
    have hG10 : (w9.setCell ⟨g, 3, none⟩ (.slice A9 (putL d.p ks i s).length c9)).heap[g]? = some (.cells #[.int .i64 d.p, .int .i64 d.room, .int .i64 d.reads, .slice A9 (putL d.p ks i s).length c9, .slice A4 d.now.length c4, .slice A5' d.pend.length c5', .int .i64 d.left] 67 (0, 0)) := blk_put hI9.1 3 _ rfl
    have hS10 : (w9.setCell ⟨g, 3, none⟩ (.slice A9 (putL d.p ks i s).length c9)).heap.size = w9.heap.size := by simp [World.setCell]
    have hO10 : ∀ k, k ≠ g → (w9.setCell ⟨g, 3, none⟩ (.slice A9 (putL d.p ks i s).length c9)).heap[k]? = w9.heap[k]? := fun k hk => Below.heap_setCell _ _ _ k hk
    have hE10 : Env wr (w9.setCell ⟨g, 3, none⟩ (.slice A9 (putL d.p ks i s).length c9)) := (HE2.out.trans ((Env.of_below HB2.out).symm.trans (Env.of_below hB9))).trans ⟨rfl, rfl, rfl⟩
    have hL9 : w9.heap[w.heap.size + 4]? = some (.loop (rec .busy none)) := hK9.blk HL2.out (by have := HGL.out; omega) (by simp)
    generalize w9.setCell ⟨g, 3, none⟩ (.slice A9 (putL d.p ks i s).length c9) = W10 at hD10 hG10 hS10 hO10 hE10 ⊢
    have hlp10 : W10.heap[w.heap.size + 4]? = some (.loop (rec .busy none)) := (hO10 _ (by have := HGL.out; omega)).trans hL9
    show W10.heap[w.heap.size + 3 + 1]? = some (.loop (rec .busy none)) ∧ _
    refine ⟨hlp10, rfl, ?_⟩
    have hgl := HGL.out
    have hwl := HW.out
    have hge := HGE.out
    have hC := HC.out
    have o11 : ∀ k, k ≠ w.heap.size + 4 → (W10.putObj (w.heap.size + 3 + 1) (.loop (rec .ready none))).heap[k]? = W10.heap[k]? := fun k hk => World.putObj_heap_other (by omega)
    have oo : ∀ k, k < wr.heap.size → k ≠ w.heap.size + 4 → k ≠ g → (W10.putObj (w.heap.size + 3 + 1) (.loop (rec .ready none))).heap[k]? = wr.heap[k]? := fun k h1 h2 h3 => (o11 k h2).trans ((hO10 k h3).trans (hO9 k h1 h2 h3))
    have hs11 : (W10.putObj (w.heap.size + 3 + 1) (.loop (rec .ready none))).heap.size = W10.heap.size := by simp
    have hlt10 := blk_lt hlp10
    refine ⟨hD10.step (by omega) (fun k hk ho => o11 k (by
      rcases ho with rfl | ho
      · omega
      · rcases ho.2 with q | q <;> omega)), (cell_same (o11 g (by omega))).trans ((blk_cell hG10 5).trans rfl), (oo _ (by omega) (by omega) (by omega)).trans hC.b0, (oo _ (by omega) (by omega) (by omega)).trans hC.b1, (oo _ (by omega) (by omega) (by omega)).trans hC.b2, (oo _ (by omega) (by omega) (by omega)).trans hC.dd, World.putObj_heap_same hlt10, ⟨⟨by have := hC.kb.1.1; omega, fun k h1 h2 h3 => (oo k (by omega) (by omega) h2).trans (hC.kb.1.2 k h1 h2 h3)⟩, (hC.kb.2.trans hE10).trans ⟨rfl, rfl, rfl⟩⟩, hgl⟩
  clear hY h h5c
  have hIter : CallsIn Fence.wide (9 - 1) Try.prog 50 (#[.func (.yield (w.heap.size + 3 + 1)) #[] #[]] ++ #[.pointer (some ⟨w.heap.size + 1, 0, none⟩), .pointer (some ⟨w.heap.size + 2, 0, none⟩)]) W1 (fun e W => (∃ v, e = .returned v) ∧ CrashAt w rec g own d A5 c5 Al l.length cl W (crashL d.p d.kept d.pend l)) := by
    refine callsIn_of_wp Try.func50 rfl trivial ?_ rfl
    simp only [Try.ntmps50, List.size_toArray, List.length_cons, List.length_nil, Nat.reduceAdd, Nat.reduceSub, Array.replicate_succ, Array.replicate_zero, List.push_toArray, List.append_toArray, List.nil_append, List.cons_append]
    have zb1 := blk_cell hC0.b1 0
    have z5 := hC0.pd
    gi_wp2
    gi_loopw [13] (fun v wr => ∃ (j : Int) (ks : List ByteArray), v = .int .i64 j ∧ Aside0 (0 ≤ j ∧ j ≤ (d.pend.length : Int)) ∧ CrashAt w rec g own d A5 c5 Al l.length cl wr ks ∧ Aside0 (crashL d.p ks (d.pend.drop j.toNat) (l.drop j.toNat) = crashL d.p d.kept d.pend l) ∧ Aside0 (∀ x ∈ ks, (x.size : Int) = d.p) ∧ Aside0 ((ks.length : Int) ≤ d.room)) (fun v _ => d.pend.length - intOfV v)
    case atStart => exact ⟨0, d.kept, rfl, ⟨by omega, by omega⟩, hC0, ⟨rfl⟩, ⟨hok.kept⟩, ⟨hok.klen⟩⟩
    case round =>
      clear hC0 zb1 z5
      obtain ⟨j, ks, rfl, HJ, hC, HK, HS, HN⟩ := hrel
      have zb1 : wr.cell? ⟨w.heap.size + 1, 0, none⟩ = some (.pointer (some ⟨g, 0, none⟩)) := (blk_cell hC.b1 0).trans rfl
      have zb2 : wr.cell? ⟨w.heap.size + 2, 0, none⟩ = some (.slice Al l.length cl) := (blk_cell hC.b2 0).trans rfl
      by_cases cj : j < (d.pend.length : Int)
      · have hj0 := HJ.out.1
        have hj1 := HJ.out.2
        have hpl := hok.few.pend
        have wj : wrap64 (j + 1) = j + 1 := w64 (by omega) (by omega)
        obtain ⟨ad, ea, hx0, hx1⟩ : ∃ ad, A5 = some ad ∧ wr.cell? (ad.add (j.toNat * 2)) = some (.int .i64 (rd_T79 d.pend j).f0) ∧ wr.cell? ⟨(ad.add (j.toNat * 2)).block, (ad.add (j.toNat * 2)).off + 1, none⟩ = some (.string (rd_T79 d.pend j).f1) := by
          obtain ⟨B3, e3, B4, e4, B5, e5, k0, k1, k2, k3, k4, k5⟩ := hC.dk
          have q := (cellS67_5 k0).symm.trans hC.pd
          injection q with q
          injection q with qx qy qz
          subst qx
          exact at_T79 (Kd.R_reads' k3).2.2 j hj0 cj
        subst ea
        have hmem : rd_T79 d.pend j ∈ d.pend := by
          unfold rd_T79
          rw [List.getD_eq_getElem?_getD, List.getElem?_eq_getElem (show j.toNat < d.pend.length by omega)]
          exact List.getElem_mem _
        have hdrop : d.pend.drop j.toNat = rd_T79 d.pend j :: d.pend.drop (j + 1).toNat := by
          rw [show (j + 1).toNat = j.toNat + 1 by omega, List.drop_eq_getElem_cons (show j.toNat < d.pend.length by omega)]
          congr 1
          unfold rd_T79
          rw [List.getD_eq_getElem?_getD, List.getElem?_eq_getElem (show j.toNat < d.pend.length by omega)]
          rfl
        generalize rd_T79 d.pend j = x at hx0 hx1 hmem hdrop
        have hxp := hok.pend x hmem
        have d1 : decide (j < (d.pend.length : Int)) = true := decide_eq_true cj
        have q0 := eq_true hj0
        have q1 := eq_true cj
        clear hmem
        obtain ⟨gb, hgb⟩ : ∃ gb, wr.heap.size = gb := ⟨_, rfl⟩
        obtain ⟨WA, hWA⟩ : ∃ WA, wr.alloc (.cells #[.int .i64 x.f0, .string x.f1] 79) = WA := ⟨_, rfl⟩
        have bA : Below wr.heap.size wr WA := by rw [← hWA]; exact below_alloc (Below.refl _ _) _
        have hCA := hC.next bA
        have HM := Aside0.mk (show DkAt WA g own { d with kept := ks, M := fun k => crashM w d k ∧ k ≠ gb } from by rw [← hWA, ← hgb]; exact hC.dk.aside _)
        have HGB := Aside0.mk (show w.heap.size + 5 ≤ gb from by have := blk_lt hC.lp; omega)
        have kA : WA.heap[gb]? = some (.cells #[.int .i64 x.f0, .string x.f1] 79 (0, 0)) := by rw [← hWA, ← hgb]; exact blk_new wr _
        have zA1 : WA.cell? ⟨w.heap.size + 1, 0, none⟩ = some (.pointer (some ⟨g, 0, none⟩)) := (blk_cell hCA.b1 0).trans rfl
        have zA2 : WA.cell? ⟨w.heap.size + 2, 0, none⟩ = some (.slice Al l.length cl) := (blk_cell hCA.b2 0).trans rfl
        have eA0 : WA.cell? ⟨gb, 0, none⟩ = some (.int .i64 x.f0) := (blk_cell kA 0).trans rfl
        have eA1 : WA.cell? ⟨gb, 1, none⟩ = some (.string x.f1) := (blk_cell kA 1).trans rfl
        have HA := Aside0.mk hCA
        have KA := Aside0.mk kA
        clear hC hCA kA bA
        by_cases cl0 : (l.length : Int) ≤ j
        · have d2 : decide ((l.length : Int) ≤ j) = true := decide_eq_true cl0
          have hdl : l.drop j.toNat = [] := List.drop_eq_nil_of_le (by omega)
          clear hj0 hj1 cj cl0 hxp
          gi_wp2
          refine bodyPost_ret (results_none rfl _ _ _) rfl ?_
          have hk := HK.out
          rw [hdl, crashL_nil] at hk
          exact ⟨⟨_, rfl⟩, hk ▸ HA.out⟩
        · have d2 : decide ((l.length : Int) ≤ j) = false := decide_eq_false cl0
          have hjl : j < (l.length : Int) := by omega
          obtain ⟨ad2, ea2, y0, y1⟩ := at_Ch (Kd.V_reads' (Kd.V_keep hl HA.out.kb.1 (fun k hk => hk))).2.2 j hj0 hjl
          subst ea2
          have hdl : l.drop j.toNat = rd_Ch l j :: l.drop (j + 1).toNat := by
            rw [show (j + 1).toNat = j.toNat + 1 by omega, List.drop_eq_getElem_cons (show j.toNat < l.length by omega)]
            congr 1
            unfold rd_Ch
            rw [List.getD_eq_getElem?_getD, List.getElem?_eq_getElem (show j.toNat < l.length by omega)]
            rfl
          generalize rd_Ch l j = c at y0 y1 hdl
          have HK2 := Aside0.mk (show crashL d.p (crash1 d.p ks x c) (d.pend.drop (j + 1).toNat) (l.drop (j + 1).toNat) = crashL d.p d.kept d.pend l from by
            have hk := HK.out
            rw [hdrop, hdl] at hk
            exact hk)
          have q2 := eq_true hjl
          have HX := Aside0.mk hxp
          have HJ1 := Aside0.mk (show 0 ≤ j + 1 ∧ j + 1 ≤ (d.pend.length : Int) by omega)
          have hp0 := hok.few.p0
          have hkl : ks.length < 1099511627776 := by have := HN.out; have := hok.room2; omega
          have hxr : x.f0 < 1099511627776 := by have := hok.room2; omega
          have hx0' := hxp.2.1
          clear hdl hdrop HK hj0 hj1 cj cl0 hxp hjl
          unfold crash1 at HK2
          by_cases c1 : c.f0 = 1
          · rw [if_pos c1] at HK2
            have k1 : (c.f0 == 1) = true := beq_iff_eq.mpr c1
            have k2 : decide (c.f0 = 1) = true := decide_eq_true c1
            obtain ⟨fn_, tm_, as_, bd_, hy, hR⟩ := hYield WA ks x.f0 x.f1 HA.out hkl hx0' hxr
            have HR := Aside0.mk hR
            clear c1 hp0 hkl hxr hx0' hR
            gi_wp2
            refine HR.out.mono ?_
            rintro e W3 ⟨rfl, hC3⟩
            clear hy HR
            have HC3 := Aside0.mk hC3
            clear hC3
            gi_wp2
            go_roundw
            case rel => exact ⟨j + 1, _, by rw [wj], HJ1, HC3.out, HK2, ⟨putL_sizes hok.few.p0 HS.out HX.out.1⟩, ⟨by rw [putL_len]; have := HN.out; have := HX.out; omega⟩⟩
            case measure => simp only [intOfV, wj]; have := HJ1.out; have := HJ.out; omega
          · rw [if_neg c1] at HK2
            have k1 : (c.f0 == 1) = false := beq_eq_false_iff_ne.mpr c1
            have k2 : decide (c.f0 = 1) = false := decide_eq_false c1
            by_cases c2 : c.f0 = 2
            · rw [if_pos c2] at HK2
              have k3 : (c.f0 == 2) = true := beq_iff_eq.mpr c2
              have k4 : decide (c.f0 = 2) = true := decide_eq_true c2
              have HZ := Aside0.mk (show strings_Repeat.f (⟨#[0]⟩ : ByteArray) d.p = some (zeroPage d.p) from by
                have := hok.few.p1
                unfold strings_Repeat.f
                rw [if_pos hp0, if_pos (by omega), if_pos (by show 1 * d.p.toNat ≤ _; omega)]
                rfl)
              have zg0 : WA.cell? ⟨g, 0, none⟩ = some (.int .i64 d.p) := by
                obtain ⟨B3, e3, B4, e4, B5, e5, k0, -⟩ := HA.out.dk
                exact cellS67_0 k0
              have HKL := Aside0.mk hkl
              have HXR := Aside0.mk hxr
              clear c1 c2 hp0 hkl hxr hx0'
              gi_wp2_with (refine ⟨trivial, ?_⟩; gi_at_call 30; refine (callsIn_wide.2 (strings_Repeat.calls (⟨#[0]⟩ : ByteArray) d.p (zeroPage d.p) _ HZ.out)).mono ?_; rintro e w3 ⟨rfl, b3⟩; have hC3 := HA.out.next b3; have k3A := blk_below KA.out b3; have HM3 := Aside0.mk (HM.out.below b3); have y13 := (cell_same (b3.block _ (World.block_lt_of_cell? _ _ y1))).trans y1; have zB3 := (cell_same (b3.block _ (World.block_lt_of_cell? _ _ zg0))).trans zg0; clear b3; have HC3 := Aside0.mk hC3; have K3A := Aside0.mk k3A; have zB1 : w3.cell? ⟨w.heap.size + 1, 0, none⟩ = some (.pointer (some ⟨g, 0, none⟩)) := (blk_cell hC3.b1 0).trans rfl; have zB2 : w3.cell? ⟨w.heap.size + 2, 0, none⟩ = some (.slice (some ad2) l.length cl) := (blk_cell hC3.b2 0).trans rfl; have zB0 : w3.cell? ⟨gb, 0, none⟩ = some (.int .i64 x.f0) := (blk_cell k3A 0).trans rfl; have zB4 : w3.cell? ⟨gb, 1, none⟩ = some (.string x.f1) := (blk_cell k3A 1).trans rfl; clear hC3 k3A)
              have HX0 := Aside0.mk (tornAt_le (x := c.f1) hok.few.p0)
              obtain ⟨A3, c3, zg3⟩ : ∃ A3 c3, w3.cell? ⟨g, 3, none⟩ = some (.slice A3 ks.length c3) := by
                obtain ⟨A3, c3, A4, c4, A5, c5, k0, -⟩ := HC3.out.dk
                exact ⟨A3, c3, cellS67_3 k0⟩
              by_cases cw : x.f0 < (ks.length : Int)
              · have d5 : decide (x.f0 < (ks.length : Int)) = true := decide_eq_true cw
                refine startN_ (m := 8) (S := fun w' => w'.cell? ⟨gb, 0, none⟩ = some (.int .i64 x.f0) ∧ w'.cell? ⟨w.heap.size + 1, 0, none⟩ = some (.pointer (some ⟨g, 0, none⟩)) ∧ w'.cell? ⟨g, 3, none⟩ = some (.slice A3 ks.length c3)) (ds := []) #[false, false, false, false, false, false, false, false] (by kernel_rfl) rfl (by kernel_rfl) (by rintro ⟨a, w, h⟩; first | exact h | (obtain ⟨⟨v, hv⟩, _⟩ := h; cases hv)) rfl ⟨zB0, zB1, zg3⟩ (fun hHeld => ?_)
                refine pure_ (i := 0) (N := some 36) (v := ?_) (a' := ?_) #[true, false, false, false, false, false, false, false] rfl rfl (by kernel_rfl) (fun _ _ _ h => h) (Or.inl ⟨by rfl, ?_⟩) ?_ ?_
                rotate_left
                · intro w'
                  go_simp
                  with_reducible rfl
                rotate_left
                · simp only [Act.put, List.setIfInBounds_toArray, List.set_cons_zero, List.set_cons_succ, i64_w, i32_w]
                  rfl
                refine take_ (i := 1) (N := some 37) (v := ?_) (a' := ?_) #[true, true, false, false, false, false, false, false] rfl rfl (by kernel_rfl) (fun _ _ _ h => h) (Or.inl ⟨by rfl, ?_⟩) hHeld ?_ ?_
                rotate_left
                · rintro w' ⟨s0, s1, s2⟩
                  go_simp
                  with_reducible rfl
                rotate_left
                · simp only [Act.put, List.setIfInBounds_toArray, List.set_cons_zero, List.set_cons_succ, i64_w, i32_w]
                  rfl
                refine take_ (i := 2) (N := some 38) (v := ?_) (a' := ?_) #[true, true, true, false, false, false, false, false] rfl rfl (by kernel_rfl) (fun _ _ _ h => h) (Or.inl ⟨by rfl, ?_⟩) hHeld ?_ ?_
                rotate_left
                · rintro w' ⟨s0, s1, s2⟩
                  go_simp
                  with_reducible rfl
                rotate_left
                · simp only [Act.put, List.setIfInBounds_toArray, List.set_cons_zero, List.set_cons_succ, i64_w, i32_w]
                  rfl
                refine pure_ (i := 3) (N := some 39) (v := ?_) (a' := ?_) #[true, true, true, true, false, false, false, false] rfl rfl (by kernel_rfl) (fun _ _ _ h => h) (Or.inl ⟨by rfl, ?_⟩) ?_ ?_
                rotate_left
                · intro w'
                  go_simp
                  with_reducible rfl
                rotate_left
                · simp only [Act.put, List.setIfInBounds_toArray, List.set_cons_zero, List.set_cons_succ, i64_w, i32_w]
                  rfl
                refine pure_ (i := 4) (N := some 40) (v := ?_) (a' := ?_) #[true, true, true, true, true, false, false, false] rfl rfl (by kernel_rfl) (fun _ _ _ h => h) (Or.inl ⟨by rfl, ?_⟩) ?_ ?_
                rotate_left
                · intro w'
                  go_simp
                  with_reducible rfl
                rotate_left
                · simp only [Act.put, List.setIfInBounds_toArray, List.set_cons_zero, List.set_cons_succ, i64_w, i32_w]
                  rfl
                refine take_ (i := 5) (N := some 41) (v := ?_) (a' := ?_) #[true, true, true, true, true, true, false, false] rfl rfl (by kernel_rfl) (fun _ _ _ h => h) (Or.inl ⟨by rfl, ?_⟩) hHeld ?_ ?_
                rotate_left
                · rintro w' ⟨s0, s1, s2⟩
                  go_simp
                  with_reducible rfl
                rotate_left
                · simp only [Act.put, List.setIfInBounds_toArray, List.set_cons_zero, List.set_cons_succ, i64_w, i32_w]
                  rfl
                refine pure_ (i := 6) (N := some 42) (v := ?_) (a' := ?_) #[true, true, true, true, true, true, true, false] rfl rfl (by kernel_rfl) (fun _ _ _ h => h) (Or.inl ⟨by rfl, ?_⟩) ?_ ?_
                rotate_left
                · intro w'
                  go_simp
                  with_reducible rfl
                rotate_left
                · simp only [Act.put, List.setIfInBounds_toArray, List.set_cons_zero, List.set_cons_succ, i64_w, i32_w]
                  rfl
                refine pure_ (i := 7) (N := some 43) (v := ?_) (a' := ?_) #[true, true, true, true, true, true, true, true] rfl rfl (by kernel_rfl) (fun _ _ _ h => h) (Or.inl ⟨by rfl, ?_⟩) ?_ ?_
                rotate_left
                · intro w'
                  go_simp
                  with_reducible rfl
                rotate_left
                · simp only [Act.put, List.setIfInBounds_toArray, List.set_cons_zero, List.set_cons_succ, i64_w, i32_w, d5]
                  rfl
                refine done_ (by kernel_rfl) ?_
                clear hHeld
                gi_wp2
                -- T1
                obtain ⟨ad3, zs3⟩ : ∃ ad3, A3 = some ad3 ∧ w3.cell? (ad3.add x.f0.toNat) = some (.string (wasS d.p ks x.f0)) := by
                  obtain ⟨B3, e3, A4, c4, A5, c5', k0, k1, -⟩ := HC3.out.dk
                  have q := (cellS67_3 k0).symm.trans zg3
                  injection q with q
                  injection q with qx qy qz
                  subst qx
                  obtain ⟨ad3, ea, hx⟩ := Kd.at_string (Kd.V_reads' k1).2.2 x.f0 HX.out.2.1 cw
                  exact ⟨ad3, ea, by unfold wasS; rw [if_pos cw]; exact hx⟩
                obtain ⟨ea3, zs3⟩ := zs3
                subst ea3
                have q3 := eq_true HX.out.2.1
                have q4 := eq_true cw
                refine startN_ (m := 9) (S := fun w' => w'.cell? ⟨w.heap.size + 1, 0, none⟩ = some (.pointer (some ⟨g, 0, none⟩)) ∧ w'.cell? ⟨g, 3, none⟩ = some (.slice (some ad3) ks.length c3) ∧ w'.cell? ⟨gb, 0, none⟩ = some (.int .i64 x.f0) ∧ w'.cell? (ad3.add x.f0.toNat) = some (.string (wasS d.p ks x.f0))) (ds := []) #[false, false, false, false, false, false, false, false, false] (by kernel_rfl) rfl (by kernel_rfl) (by rintro ⟨a, w, h⟩; first | exact h | (obtain ⟨⟨v, hv⟩, _⟩ := h; cases hv)) rfl ⟨zB1, zg3, zB0, zs3⟩ (fun hHeld => ?_)
                refine take_ (i := 0) (N := some 44) (v := ?_) (a' := ?_) #[true, false, false, false, false, false, false, false, false] rfl rfl (by kernel_rfl) (fun _ _ _ h => h) (Or.inl ⟨by rfl, ?_⟩) hHeld ?_ ?_
                rotate_left
                · rintro w' ⟨s0, s1, s2, s3⟩
                  go_simp
                  with_reducible rfl
                rotate_left
                · simp only [Act.put, List.setIfInBounds_toArray, List.set_cons_zero, List.set_cons_succ, i64_w, i32_w]
                  rfl
                refine pure_ (i := 1) (N := some 45) (v := ?_) (a' := ?_) #[true, true, false, false, false, false, false, false, false] rfl rfl (by kernel_rfl) (fun _ _ _ h => h) (Or.inl ⟨by rfl, ?_⟩) ?_ ?_
                rotate_left
                · intro w'
                  go_simp
                  with_reducible rfl
                rotate_left
                · simp only [Act.put, List.setIfInBounds_toArray, List.set_cons_zero, List.set_cons_succ, i64_w, i32_w]
                  rfl
                refine pure_ (i := 2) (N := some 46) (v := ?_) (a' := ?_) #[true, true, true, false, false, false, false, false, false] rfl rfl (by kernel_rfl) (fun _ _ _ h => h) (Or.inl ⟨by rfl, ?_⟩) ?_ ?_
                rotate_left
                · intro w'
                  go_simp
                  with_reducible rfl
                rotate_left
                · simp only [Act.put, List.setIfInBounds_toArray, List.set_cons_zero, List.set_cons_succ, i64_w, i32_w]
                  rfl
                refine take_ (i := 3) (N := some 47) (v := ?_) (a' := ?_) #[true, true, true, true, false, false, false, false, false] rfl rfl (by kernel_rfl) (fun _ _ _ h => h) (Or.inl ⟨by rfl, ?_⟩) hHeld ?_ ?_
                rotate_left
                · rintro w' ⟨s0, s1, s2, s3⟩
                  go_simp
                  with_reducible rfl
                rotate_left
                · simp only [Act.put, List.setIfInBounds_toArray, List.set_cons_zero, List.set_cons_succ, i64_w, i32_w]
                  rfl
                refine pure_ (i := 4) (N := some 48) (v := ?_) (a' := ?_) #[true, true, true, true, true, false, false, false, false] rfl rfl (by kernel_rfl) (fun _ _ _ h => h) (Or.inl ⟨by rfl, ?_⟩) ?_ ?_
                rotate_left
                · intro w'
                  go_simp
                  with_reducible rfl
                rotate_left
                · simp only [Act.put, List.setIfInBounds_toArray, List.set_cons_zero, List.set_cons_succ, i64_w, i32_w]
                  rfl
                refine take_ (i := 5) (N := some 49) (v := ?_) (a' := ?_) #[true, true, true, true, true, true, false, false, false] rfl rfl (by kernel_rfl) (fun _ _ _ h => h) (Or.inl ⟨by rfl, ?_⟩) hHeld ?_ ?_
                rotate_left
                · rintro w' ⟨s0, s1, s2, s3⟩
                  go_simp
                  with_reducible rfl
                rotate_left
                · simp only [Act.put, List.setIfInBounds_toArray, List.set_cons_zero, List.set_cons_succ, i64_w, i32_w]
                  rfl
                refine pure_ (i := 6) (N := some 50) (v := ?_) (a' := ?_) #[true, true, true, true, true, true, true, false, false] rfl rfl (by kernel_rfl) (fun _ _ _ h => h) (Or.inl ⟨by rfl, ?_⟩) ?_ ?_
                rotate_left
                · intro w'
                  go_simp
                  with_reducible rfl
                rotate_left
                · simp only [Act.put, List.setIfInBounds_toArray, List.set_cons_zero, List.set_cons_succ, i64_w, i32_w]
                  rfl
                refine take_ (i := 7) (N := some 51) (v := ?_) (a' := ?_) #[true, true, true, true, true, true, true, true, false] rfl rfl (by kernel_rfl) (fun _ _ _ h => h) (Or.inl ⟨by rfl, ?_⟩) hHeld ?_ ?_
                rotate_left
                · rintro w' ⟨s0, s1, s2, s3⟩
                  go_simp
                  with_reducible rfl
                rotate_left
                · simp only [Act.put, List.setIfInBounds_toArray, List.set_cons_zero, List.set_cons_succ, i64_w, i32_w]
                  rfl
                refine pure_ (i := 8) (N := some 6) (v := ?_) (a' := ?_) #[true, true, true, true, true, true, true, true, true] rfl rfl (by kernel_rfl) (fun _ _ _ h => h) (Or.inl ⟨by rfl, ?_⟩) ?_ ?_
                rotate_left
                · intro w'
                  go_simp
                  with_reducible rfl
                rotate_left
                · simp only [Act.put, List.setIfInBounds_toArray, List.set_cons_zero, List.set_cons_succ, i64_w, i32_w]
                  rfl
                refine done_ (by kernel_rfl) ?_
                clear hHeld
                gi_wp2
                -- T2
                obtain ⟨at_, hat⟩ : ∃ at_, min (max c.f1 0) d.p = at_ := ⟨_, rfl⟩
                have h_at := HX0.out
                have hat2 : tornAt d.p c.f1 = at_ := hat
                rw [hat2] at h_at
                have hwz := wasS_size hok.few.p0 HX.out.2.1 HS.out
                have hxs := HX.out.1
                have hp1 := hok.few.p1
                have q5 := eq_true h_at.1
                have q6 : (at_ ≤ (x.f1.size : Int)) = True := eq_true (by omega)
                have q7 : (at_ ≤ ((wasS d.p ks x.f0).size : Int)) = True := eq_true (by omega)
                obtain ⟨u1, hu1⟩ : ∃ u1, x.f1.extract 0 at_.toNat = u1 := ⟨_, rfl⟩
                obtain ⟨u2, hu2⟩ : ∃ u2, (wasS d.p ks x.f0).extract at_.toNat (wasS d.p ks x.f0).size = u2 := ⟨_, rfl⟩
                have hs1 : u1.size ≤ x.f1.size := by rw [← hu1, ByteArray.size_extract]; omega
                have hs2 : u2.size ≤ (wasS d.p ks x.f0).size := by rw [← hu2, ByteArray.size_extract]; omega
                have c7 : (9223372036854775807 < u1.size + u2.size) = False := eq_false (by omega)
                obtain ⟨tt, htt⟩ : ∃ tt, u1 ++ u2 = tt := ⟨_, rfl⟩
                have HT := Aside0.mk (show tornS d.p ks x c.f1 = tt from by unfold tornS; rw [hat2, hu1, hu2, htt])
                clear h_at hat2 hwz hxs hp1 hs1 hs2
                refine startN_ (m := 12) (S := fun w' => w'.cell? ⟨w.heap.size + 2, 0, none⟩ = some (.slice (some ad2) l.length cl) ∧ w'.cell? ⟨(ad2.add (j.toNat * 2)).block, (ad2.add (j.toNat * 2)).off + 1, none⟩ = some (.int .i64 c.f1) ∧ w'.cell? ⟨w.heap.size + 1, 0, none⟩ = some (.pointer (some ⟨g, 0, none⟩)) ∧ w'.cell? ⟨g, 0, none⟩ = some (.int .i64 d.p)) (ds := []) #[false, false, false, false, false, false, false, false, false, false, false, false] (by kernel_rfl) rfl (by kernel_rfl) (by rintro ⟨a, w, h⟩; first | exact h | (obtain ⟨⟨v, hv⟩, _⟩ := h; cases hv)) rfl ⟨zB2, y13, zB1, zB3⟩ (fun hHeld => ?_)
                refine take_ (i := 0) (N := some 52) (v := ?_) (a' := ?_) #[true, false, false, false, false, false, false, false, false, false, false, false] rfl rfl (by kernel_rfl) (fun _ _ _ h => h) (Or.inl ⟨by rfl, ?_⟩) hHeld ?_ ?_
                rotate_left
                · rintro w' ⟨s0, s1, s2, s3⟩
                  go_simp
                  with_reducible rfl
                rotate_left
                · simp only [Act.put, List.setIfInBounds_toArray, List.set_cons_zero, List.set_cons_succ, i64_w, i32_w]
                  rfl
                refine pure_ (i := 1) (N := some 53) (v := ?_) (a' := ?_) #[true, true, false, false, false, false, false, false, false, false, false, false] rfl rfl (by kernel_rfl) (fun _ _ _ h => h) (Or.inl ⟨by rfl, ?_⟩) ?_ ?_
                rotate_left
                · intro w'
                  go_simp
                  with_reducible rfl
                rotate_left
                · simp only [Act.put, List.setIfInBounds_toArray, List.set_cons_zero, List.set_cons_succ, i64_w, i32_w]
                  rfl
                refine pure_ (i := 2) (N := some 54) (v := ?_) (a' := ?_) #[true, true, true, false, false, false, false, false, false, false, false, false] rfl rfl (by kernel_rfl) (fun _ _ _ h => h) (Or.inl ⟨by rfl, ?_⟩) ?_ ?_
                rotate_left
                · intro w'
                  go_simp
                  with_reducible rfl
                rotate_left
                · simp only [Act.put, List.setIfInBounds_toArray, List.set_cons_zero, List.set_cons_succ, i64_w, i32_w]
                  rfl
                refine pure_ (i := 3) (N := some 55) (v := ?_) (a' := ?_) #[true, true, true, true, false, false, false, false, false, false, false, false] rfl rfl (by kernel_rfl) (fun _ _ _ h => h) (Or.inl ⟨by rfl, ?_⟩) ?_ ?_
                rotate_left
                · intro w'
                  go_simp
                  with_reducible rfl
                rotate_left
                · simp only [Act.put, List.setIfInBounds_toArray, List.set_cons_zero, List.set_cons_succ, i64_w, i32_w]
                  rfl
                refine take_ (i := 4) (N := some 56) (v := ?_) (a' := ?_) #[true, true, true, true, true, false, false, false, false, false, false, false] rfl rfl (by kernel_rfl) (fun _ _ _ h => h) (Or.inl ⟨by rfl, ?_⟩) hHeld ?_ ?_
                rotate_left
                · rintro w' ⟨s0, s1, s2, s3⟩
                  go_simp
                  with_reducible rfl
                rotate_left
                · simp only [Act.put, List.setIfInBounds_toArray, List.set_cons_zero, List.set_cons_succ, i64_w, i32_w]
                  rfl
                refine pure_ (i := 5) (N := some 57) (v := ?_) (a' := ?_) #[true, true, true, true, true, true, false, false, false, false, false, false] rfl rfl (by kernel_rfl) (fun _ _ _ h => h) (Or.inl ⟨by rfl, ?_⟩) ?_ ?_
                rotate_left
                · intro w'
                  go_simp
                  with_reducible rfl
                rotate_left
                · simp only [Act.put, List.setIfInBounds_toArray, List.set_cons_zero, List.set_cons_succ, i64_w, i32_w]
                  rfl
                refine take_ (i := 6) (N := some 58) (v := ?_) (a' := ?_) #[true, true, true, true, true, true, true, false, false, false, false, false] rfl rfl (by kernel_rfl) (fun _ _ _ h => h) (Or.inl ⟨by rfl, ?_⟩) hHeld ?_ ?_
                rotate_left
                · rintro w' ⟨s0, s1, s2, s3⟩
                  go_simp
                  with_reducible rfl
                rotate_left
                · simp only [Act.put, List.setIfInBounds_toArray, List.set_cons_zero, List.set_cons_succ, i64_w, i32_w]
                  rfl
                refine pure_ (i := 7) (N := some 59) (v := ?_) (a' := ?_) #[true, true, true, true, true, true, true, true, false, false, false, false] rfl rfl (by kernel_rfl) (fun _ _ _ h => h) (Or.inl ⟨by rfl, ?_⟩) ?_ ?_
                rotate_left
                · intro w'
                  go_simp
                  with_reducible rfl
                rotate_left
                · simp only [Act.put, List.setIfInBounds_toArray, List.set_cons_zero, List.set_cons_succ, i64_w, i32_w]
                  rfl
                refine pure_ (i := 8) (N := some 60) (v := ?_) (a' := ?_) #[true, true, true, true, true, true, true, true, true, false, false, false] rfl rfl (by kernel_rfl) (fun _ _ _ h => h) (Or.inl ⟨by rfl, ?_⟩) ?_ ?_
                rotate_left
                · intro w'
                  go_simp
                  with_reducible rfl
                rotate_left
                · simp only [Act.put, List.setIfInBounds_toArray, List.set_cons_zero, List.set_cons_succ, i64_w, i32_w]
                  rfl
                refine take_ (i := 9) (N := some 61) (v := ?_) (a' := ?_) #[true, true, true, true, true, true, true, true, true, true, false, false] rfl rfl (by kernel_rfl) (fun _ _ _ h => h) (Or.inl ⟨by rfl, ?_⟩) hHeld ?_ ?_
                rotate_left
                · rintro w' ⟨s0, s1, s2, s3⟩
                  go_simp
                  with_reducible rfl
                rotate_left
                · simp only [Act.put, List.setIfInBounds_toArray, List.set_cons_zero, List.set_cons_succ, i64_w, i32_w]
                  rfl
                refine pure_ (i := 10) (N := some 62) (v := ?_) (a' := ?_) #[true, true, true, true, true, true, true, true, true, true, true, false] rfl rfl (by kernel_rfl) (fun _ _ _ h => h) (Or.inl ⟨by rfl, ?_⟩) ?_ ?_
                rotate_left
                · intro w'
                  go_simp
                  with_reducible rfl
                rotate_left
                · simp only [Act.put, List.setIfInBounds_toArray, List.set_cons_zero, List.set_cons_succ, i64_w, i32_w, hat]
                  rfl
                refine pure_ (i := 11) (N := some 7) (v := ?_) (a' := ?_) #[true, true, true, true, true, true, true, true, true, true, true, true] rfl rfl (by kernel_rfl) (fun _ _ _ h => h) (Or.inl ⟨by rfl, ?_⟩) ?_ ?_
                rotate_left
                · intro w'
                  go_simp
                  with_reducible rfl
                rotate_left
                · simp only [Act.put, List.setIfInBounds_toArray, List.set_cons_zero, List.set_cons_succ, i64_w, i32_w]
                  rfl
                refine done_ (by kernel_rfl) ?_
                clear hHeld
                gi_wp2
                have yB := blk_frozen K3A.out 1
                refine startN_ (m := 10) (S := fun w' => w'.cell? ⟨gb, 1, none⟩ = some (.string x.f1)) (ds := [9]) #[false, false, false, false, false, false, false, false, false, false] (by kernel_rfl) rfl (by kernel_rfl) (by rintro ⟨a, w, h⟩; first | exact h | (obtain ⟨⟨v, hv⟩, _⟩ := h; cases hv)) rfl zB4 (fun hHeld => ?_)
                refine pure_ (i := 0) (N := some 63) (v := ?_) (a' := ?_) #[true, false, false, false, false, false, false, false, false, false] rfl rfl (by kernel_rfl) (fun _ _ _ h => h) (Or.inl ⟨by rfl, ?_⟩) ?_ ?_
                rotate_left
                · intro w'
                  go_simp
                  with_reducible rfl
                rotate_left
                · simp only [Act.put, List.setIfInBounds_toArray, List.set_cons_zero, List.set_cons_succ, i64_w, i32_w]
                  rfl
                refine take_ (i := 1) (N := some 64) (v := ?_) (a' := ?_) #[true, true, false, false, false, false, false, false, false, false] rfl rfl (by kernel_rfl) (fun _ _ _ h => h) (Or.inl ⟨by rfl, ?_⟩) hHeld ?_ ?_
                rotate_left
                · rintro w' s0
                  go_simp
                  with_reducible rfl
                rotate_left
                · simp only [Act.put, List.setIfInBounds_toArray, List.set_cons_zero, List.set_cons_succ, i64_w, i32_w]
                  rfl
                refine pure_ (i := 2) (N := some 65) (v := ?_) (a' := ?_) #[true, true, true, false, false, false, false, false, false, false] rfl rfl (by kernel_rfl) (fun _ _ _ h => h) (Or.inl ⟨by rfl, ?_⟩) ?_ ?_
                rotate_left
                · intro w'
                  go_simp
                  with_reducible rfl
                rotate_left
                · simp only [Act.put, List.setIfInBounds_toArray, List.set_cons_zero, List.set_cons_succ, i64_w, i32_w]
                  rfl
                refine pure_ (i := 3) (N := some 66) (v := ?_) (a' := ?_) #[true, true, true, true, false, false, false, false, false, false] rfl rfl (by kernel_rfl) (fun _ _ _ h => h) (Or.inl ⟨by rfl, ?_⟩) ?_ ?_
                rotate_left
                · intro w'
                  go_simp
                  with_reducible rfl
                rotate_left
                · simp only [Act.put, List.setIfInBounds_toArray, List.set_cons_zero, List.set_cons_succ, i64_w, i32_w, hu1]
                  rfl
                refine pure_ (i := 4) (N := some 67) (v := ?_) (a' := ?_) #[true, true, true, true, true, false, false, false, false, false] rfl rfl (by kernel_rfl) (fun _ _ _ h => h) (Or.inl ⟨by rfl, ?_⟩) ?_ ?_
                rotate_left
                · intro w'
                  go_simp
                  with_reducible rfl
                rotate_left
                · simp only [Act.put, List.setIfInBounds_toArray, List.set_cons_zero, List.set_cons_succ, i64_w, i32_w]
                  rfl
                refine pure_ (i := 5) (N := some 68) (v := ?_) (a' := ?_) #[true, true, true, true, true, true, false, false, false, false] rfl rfl (by kernel_rfl) (fun _ _ _ h => h) (Or.inl ⟨by rfl, ?_⟩) ?_ ?_
                rotate_left
                · intro w'
                  go_simp
                  with_reducible rfl
                rotate_left
                · simp only [Act.put, List.setIfInBounds_toArray, List.set_cons_zero, List.set_cons_succ, i64_w, i32_w]
                  rfl
                refine pure_ (i := 6) (N := some 69) (v := ?_) (a' := ?_) #[true, true, true, true, true, true, true, false, false, false] rfl rfl (by kernel_rfl) (fun _ _ _ h => h) (Or.inl ⟨by rfl, ?_⟩) ?_ ?_
                rotate_left
                · intro w'
                  go_simp
                  with_reducible rfl
                rotate_left
                · simp only [Act.put, List.setIfInBounds_toArray, List.set_cons_zero, List.set_cons_succ, i64_w, i32_w, hu2]
                  rfl
                refine pure_ (i := 7) (N := some 70) (v := ?_) (a' := ?_) #[true, true, true, true, true, true, true, true, false, false] rfl rfl (by kernel_rfl) (fun _ _ _ h => h) (Or.inl ⟨by rfl, ?_⟩) ?_ ?_
                rotate_left
                · intro w'
                  go_simp
                  with_reducible rfl
                rotate_left
                · simp only [Act.put, List.setIfInBounds_toArray, List.set_cons_zero, List.set_cons_succ, i64_w, i32_w, htt]
                  rfl
                refine pure_ (i := 8) (N := some 71) (v := ?_) (a' := ?_) #[true, true, true, true, true, true, true, true, true, false] rfl rfl (by kernel_rfl) (fun _ _ _ h => h) (Or.inl ⟨by rfl, ?_⟩) ?_ ?_
                rotate_left
                · intro w'
                  go_simp
                  with_reducible rfl
                rotate_left
                · simp only [Act.put, List.setIfInBounds_toArray, List.set_cons_zero, List.set_cons_succ, i64_w, i32_w]
                  rfl
                refine last_ (i := 9) (N := none) #[true, true, true, true, true, true, true, true, true, true] rfl rfl (by kernel_rfl) (by decide) (fun K hK => ?_)
                refine skip_ (w1 := w3.drew.drew.drew.drew.setCell ⟨gb, 1, none⟩ (.string tt)) (by rfl) rfl ?hrun ?_
                case hrun => first | (go_simp; done) | (go_simp; rfl)
                refine hK.out _ _ ?_
                clear hK K
                refine done_ (by kernel_rfl) ?_
                have kS : (w3.drew.drew.drew.drew.setCell ⟨gb, 1, none⟩ (.string tt)).heap[gb]? = some (.cells #[.int .i64 x.f0, .string tt] 79 (0, 0)) := blk_put (show w3.drew.drew.drew.drew.heap[gb]? = _ from K3A.out) 1 _ rfl
                have hCS : CrashAt w rec g own d (some ad) c5 (some ad2) l.length cl (w3.drew.drew.drew.drew.setCell ⟨gb, 1, none⟩ (.string tt)) ks := CrashAt.far (by repeat (first | exact HC3.out | apply CrashAt.drew)) (by repeat (first | exact HM3.out | apply DkAt.drew)) HGB.out 1 _
                generalize w3.drew.drew.drew.drew.setCell ⟨gb, 1, none⟩ (.string tt) = WS at kS hCS ⊢
                clear hHeld zB0 zB1 zB2 zB3 zB4 zg3 y13 yB hu1 hu2 htt hat c7 HC3 K3A HM3
                have zS0 : WS.cell? ⟨gb, 0, none⟩ = some (.int .i64 x.f0) := (blk_cell kS 0).trans rfl
                have zS1 : WS.cell? ⟨gb, 1, none⟩ = some (.string tt) := (blk_cell kS 1).trans rfl
                obtain ⟨fn_, tm_, as_, bd_, hy, hR⟩ := hYield WS ks x.f0 tt hCS HKL.out HX.out.2.1 HXR.out
                have HR := Aside0.mk hR
                clear hR hCS kS
                gi_wp2
                refine HR.out.mono ?_
                rintro e W4 ⟨rfl, hC4⟩
                clear hy HR
                have HC4 := Aside0.mk hC4
                clear hC4
                gi_wp2
                go_roundw
                case rel => exact ⟨j + 1, _, by rw [wj], HJ1, HC4.out, ⟨by rw [← HT.out]; exact HK2.out⟩, ⟨putL_sizes hok.few.p0 HS.out (by rw [← HT.out]; exact tornS_size hok.few.p0 HX.out.2.1 HS.out HX.out.1)⟩, ⟨by rw [putL_len]; have := HN.out; have := HX.out; omega⟩⟩
                case measure => simp only [intOfV, wj]; have := HJ1.out; have := HJ.out; omega
              · have d5 : decide (x.f0 < (ks.length : Int)) = false := decide_eq_false cw
                refine startN_ (m := 8) (S := fun w' => w'.cell? ⟨gb, 0, none⟩ = some (.int .i64 x.f0) ∧ w'.cell? ⟨w.heap.size + 1, 0, none⟩ = some (.pointer (some ⟨g, 0, none⟩)) ∧ w'.cell? ⟨g, 3, none⟩ = some (.slice A3 ks.length c3)) (ds := []) #[false, false, false, false, false, false, false, false] (by kernel_rfl) rfl (by kernel_rfl) (by rintro ⟨a, w, h⟩; first | exact h | (obtain ⟨⟨v, hv⟩, _⟩ := h; cases hv)) rfl ⟨zB0, zB1, zg3⟩ (fun hHeld => ?_)
                refine pure_ (i := 0) (N := some 36) (v := ?_) (a' := ?_) #[true, false, false, false, false, false, false, false] rfl rfl (by kernel_rfl) (fun _ _ _ h => h) (Or.inl ⟨by rfl, ?_⟩) ?_ ?_
                rotate_left
                · intro w'
                  go_simp
                  with_reducible rfl
                rotate_left
                · simp only [Act.put, List.setIfInBounds_toArray, List.set_cons_zero, List.set_cons_succ, i64_w, i32_w]
                  rfl
                refine take_ (i := 1) (N := some 37) (v := ?_) (a' := ?_) #[true, true, false, false, false, false, false, false] rfl rfl (by kernel_rfl) (fun _ _ _ h => h) (Or.inl ⟨by rfl, ?_⟩) hHeld ?_ ?_
                rotate_left
                · rintro w' ⟨s0, s1, s2⟩
                  go_simp
                  with_reducible rfl
                rotate_left
                · simp only [Act.put, List.setIfInBounds_toArray, List.set_cons_zero, List.set_cons_succ, i64_w, i32_w]
                  rfl
                refine take_ (i := 2) (N := some 38) (v := ?_) (a' := ?_) #[true, true, true, false, false, false, false, false] rfl rfl (by kernel_rfl) (fun _ _ _ h => h) (Or.inl ⟨by rfl, ?_⟩) hHeld ?_ ?_
                rotate_left
                · rintro w' ⟨s0, s1, s2⟩
                  go_simp
                  with_reducible rfl
                rotate_left
                · simp only [Act.put, List.setIfInBounds_toArray, List.set_cons_zero, List.set_cons_succ, i64_w, i32_w]
                  rfl
                refine pure_ (i := 3) (N := some 39) (v := ?_) (a' := ?_) #[true, true, true, true, false, false, false, false] rfl rfl (by kernel_rfl) (fun _ _ _ h => h) (Or.inl ⟨by rfl, ?_⟩) ?_ ?_
                rotate_left
                · intro w'
                  go_simp
                  with_reducible rfl
                rotate_left
                · simp only [Act.put, List.setIfInBounds_toArray, List.set_cons_zero, List.set_cons_succ, i64_w, i32_w]
                  rfl
                refine pure_ (i := 4) (N := some 40) (v := ?_) (a' := ?_) #[true, true, true, true, true, false, false, false] rfl rfl (by kernel_rfl) (fun _ _ _ h => h) (Or.inl ⟨by rfl, ?_⟩) ?_ ?_
                rotate_left
                · intro w'
                  go_simp
                  with_reducible rfl
                rotate_left
                · simp only [Act.put, List.setIfInBounds_toArray, List.set_cons_zero, List.set_cons_succ, i64_w, i32_w]
                  rfl
                refine take_ (i := 5) (N := some 41) (v := ?_) (a' := ?_) #[true, true, true, true, true, true, false, false] rfl rfl (by kernel_rfl) (fun _ _ _ h => h) (Or.inl ⟨by rfl, ?_⟩) hHeld ?_ ?_
                rotate_left
                · rintro w' ⟨s0, s1, s2⟩
                  go_simp
                  with_reducible rfl
                rotate_left
                · simp only [Act.put, List.setIfInBounds_toArray, List.set_cons_zero, List.set_cons_succ, i64_w, i32_w]
                  rfl
                refine pure_ (i := 6) (N := some 42) (v := ?_) (a' := ?_) #[true, true, true, true, true, true, true, false] rfl rfl (by kernel_rfl) (fun _ _ _ h => h) (Or.inl ⟨by rfl, ?_⟩) ?_ ?_
                rotate_left
                · intro w'
                  go_simp
                  with_reducible rfl
                rotate_left
                · simp only [Act.put, List.setIfInBounds_toArray, List.set_cons_zero, List.set_cons_succ, i64_w, i32_w]
                  rfl
                refine pure_ (i := 7) (N := some 43) (v := ?_) (a' := ?_) #[true, true, true, true, true, true, true, true] rfl rfl (by kernel_rfl) (fun _ _ _ h => h) (Or.inl ⟨by rfl, ?_⟩) ?_ ?_
                rotate_left
                · intro w'
                  go_simp
                  with_reducible rfl
                rotate_left
                · simp only [Act.put, List.setIfInBounds_toArray, List.set_cons_zero, List.set_cons_succ, i64_w, i32_w, d5]
                  rfl
                refine done_ (by kernel_rfl) ?_
                clear hHeld
                gi_wp2
                -- T0
                have ew : zeroPage d.p = wasS d.p ks x.f0 := by unfold wasS; rw [if_neg (by omega)]
                rw [ew]
                obtain ⟨at_, hat⟩ : ∃ at_, min (max c.f1 0) d.p = at_ := ⟨_, rfl⟩
                have h_at := HX0.out
                have hat2 : tornAt d.p c.f1 = at_ := hat
                rw [hat2] at h_at
                have hwz := wasS_size hok.few.p0 HX.out.2.1 HS.out
                have hxs := HX.out.1
                have hp1 := hok.few.p1
                have q5 := eq_true h_at.1
                have q6 : (at_ ≤ (x.f1.size : Int)) = True := eq_true (by omega)
                have q7 : (at_ ≤ ((wasS d.p ks x.f0).size : Int)) = True := eq_true (by omega)
                obtain ⟨u1, hu1⟩ : ∃ u1, x.f1.extract 0 at_.toNat = u1 := ⟨_, rfl⟩
                obtain ⟨u2, hu2⟩ : ∃ u2, (wasS d.p ks x.f0).extract at_.toNat (wasS d.p ks x.f0).size = u2 := ⟨_, rfl⟩
                have hs1 : u1.size ≤ x.f1.size := by rw [← hu1, ByteArray.size_extract]; omega
                have hs2 : u2.size ≤ (wasS d.p ks x.f0).size := by rw [← hu2, ByteArray.size_extract]; omega
                have c7 : (9223372036854775807 < u1.size + u2.size) = False := eq_false (by omega)
                obtain ⟨tt, htt⟩ : ∃ tt, u1 ++ u2 = tt := ⟨_, rfl⟩
                have HT := Aside0.mk (show tornS d.p ks x c.f1 = tt from by unfold tornS; rw [hat2, hu1, hu2, htt])
                clear h_at hat2 hwz hxs hp1 hs1 hs2
                refine startN_ (m := 12) (S := fun w' => w'.cell? ⟨w.heap.size + 2, 0, none⟩ = some (.slice (some ad2) l.length cl) ∧ w'.cell? ⟨(ad2.add (j.toNat * 2)).block, (ad2.add (j.toNat * 2)).off + 1, none⟩ = some (.int .i64 c.f1) ∧ w'.cell? ⟨w.heap.size + 1, 0, none⟩ = some (.pointer (some ⟨g, 0, none⟩)) ∧ w'.cell? ⟨g, 0, none⟩ = some (.int .i64 d.p)) (ds := []) #[false, false, false, false, false, false, false, false, false, false, false, false] (by kernel_rfl) rfl (by kernel_rfl) (by rintro ⟨a, w, h⟩; first | exact h | (obtain ⟨⟨v, hv⟩, _⟩ := h; cases hv)) rfl ⟨zB2, y13, zB1, zB3⟩ (fun hHeld => ?_)
                refine take_ (i := 0) (N := some 52) (v := ?_) (a' := ?_) #[true, false, false, false, false, false, false, false, false, false, false, false] rfl rfl (by kernel_rfl) (fun _ _ _ h => h) (Or.inl ⟨by rfl, ?_⟩) hHeld ?_ ?_
                rotate_left
                · rintro w' ⟨s0, s1, s2, s3⟩
                  go_simp
                  with_reducible rfl
                rotate_left
                · simp only [Act.put, List.setIfInBounds_toArray, List.set_cons_zero, List.set_cons_succ, i64_w, i32_w]
                  rfl
                refine pure_ (i := 1) (N := some 53) (v := ?_) (a' := ?_) #[true, true, false, false, false, false, false, false, false, false, false, false] rfl rfl (by kernel_rfl) (fun _ _ _ h => h) (Or.inl ⟨by rfl, ?_⟩) ?_ ?_
                rotate_left
                · intro w'
                  go_simp
                  with_reducible rfl
                rotate_left
                · simp only [Act.put, List.setIfInBounds_toArray, List.set_cons_zero, List.set_cons_succ, i64_w, i32_w]
                  rfl
                refine pure_ (i := 2) (N := some 54) (v := ?_) (a' := ?_) #[true, true, true, false, false, false, false, false, false, false, false, false] rfl rfl (by kernel_rfl) (fun _ _ _ h => h) (Or.inl ⟨by rfl, ?_⟩) ?_ ?_
                rotate_left
                · intro w'
                  go_simp
                  with_reducible rfl
                rotate_left
                · simp only [Act.put, List.setIfInBounds_toArray, List.set_cons_zero, List.set_cons_succ, i64_w, i32_w]
                  rfl
                refine pure_ (i := 3) (N := some 55) (v := ?_) (a' := ?_) #[true, true, true, true, false, false, false, false, false, false, false, false] rfl rfl (by kernel_rfl) (fun _ _ _ h => h) (Or.inl ⟨by rfl, ?_⟩) ?_ ?_
                rotate_left
                · intro w'
                  go_simp
                  with_reducible rfl
                rotate_left
                · simp only [Act.put, List.setIfInBounds_toArray, List.set_cons_zero, List.set_cons_succ, i64_w, i32_w]
                  rfl
                refine take_ (i := 4) (N := some 56) (v := ?_) (a' := ?_) #[true, true, true, true, true, false, false, false, false, false, false, false] rfl rfl (by kernel_rfl) (fun _ _ _ h => h) (Or.inl ⟨by rfl, ?_⟩) hHeld ?_ ?_
                rotate_left
                · rintro w' ⟨s0, s1, s2, s3⟩
                  go_simp
                  with_reducible rfl
                rotate_left
                · simp only [Act.put, List.setIfInBounds_toArray, List.set_cons_zero, List.set_cons_succ, i64_w, i32_w]
                  rfl
                refine pure_ (i := 5) (N := some 57) (v := ?_) (a' := ?_) #[true, true, true, true, true, true, false, false, false, false, false, false] rfl rfl (by kernel_rfl) (fun _ _ _ h => h) (Or.inl ⟨by rfl, ?_⟩) ?_ ?_
                rotate_left
                · intro w'
                  go_simp
                  with_reducible rfl
                rotate_left
                · simp only [Act.put, List.setIfInBounds_toArray, List.set_cons_zero, List.set_cons_succ, i64_w, i32_w]
                  rfl
                refine take_ (i := 6) (N := some 58) (v := ?_) (a' := ?_) #[true, true, true, true, true, true, true, false, false, false, false, false] rfl rfl (by kernel_rfl) (fun _ _ _ h => h) (Or.inl ⟨by rfl, ?_⟩) hHeld ?_ ?_
                rotate_left
                · rintro w' ⟨s0, s1, s2, s3⟩
                  go_simp
                  with_reducible rfl
                rotate_left
                · simp only [Act.put, List.setIfInBounds_toArray, List.set_cons_zero, List.set_cons_succ, i64_w, i32_w]
                  rfl
                refine pure_ (i := 7) (N := some 59) (v := ?_) (a' := ?_) #[true, true, true, true, true, true, true, true, false, false, false, false] rfl rfl (by kernel_rfl) (fun _ _ _ h => h) (Or.inl ⟨by rfl, ?_⟩) ?_ ?_
                rotate_left
                · intro w'
                  go_simp
                  with_reducible rfl
                rotate_left
                · simp only [Act.put, List.setIfInBounds_toArray, List.set_cons_zero, List.set_cons_succ, i64_w, i32_w]
                  rfl
                refine pure_ (i := 8) (N := some 60) (v := ?_) (a' := ?_) #[true, true, true, true, true, true, true, true, true, false, false, false] rfl rfl (by kernel_rfl) (fun _ _ _ h => h) (Or.inl ⟨by rfl, ?_⟩) ?_ ?_
                rotate_left
                · intro w'
                  go_simp
                  with_reducible rfl
                rotate_left
                · simp only [Act.put, List.setIfInBounds_toArray, List.set_cons_zero, List.set_cons_succ, i64_w, i32_w]
                  rfl
                refine take_ (i := 9) (N := some 61) (v := ?_) (a' := ?_) #[true, true, true, true, true, true, true, true, true, true, false, false] rfl rfl (by kernel_rfl) (fun _ _ _ h => h) (Or.inl ⟨by rfl, ?_⟩) hHeld ?_ ?_
                rotate_left
                · rintro w' ⟨s0, s1, s2, s3⟩
                  go_simp
                  with_reducible rfl
                rotate_left
                · simp only [Act.put, List.setIfInBounds_toArray, List.set_cons_zero, List.set_cons_succ, i64_w, i32_w]
                  rfl
                refine pure_ (i := 10) (N := some 62) (v := ?_) (a' := ?_) #[true, true, true, true, true, true, true, true, true, true, true, false] rfl rfl (by kernel_rfl) (fun _ _ _ h => h) (Or.inl ⟨by rfl, ?_⟩) ?_ ?_
                rotate_left
                · intro w'
                  go_simp
                  with_reducible rfl
                rotate_left
                · simp only [Act.put, List.setIfInBounds_toArray, List.set_cons_zero, List.set_cons_succ, i64_w, i32_w, hat]
                  rfl
                refine pure_ (i := 11) (N := some 7) (v := ?_) (a' := ?_) #[true, true, true, true, true, true, true, true, true, true, true, true] rfl rfl (by kernel_rfl) (fun _ _ _ h => h) (Or.inl ⟨by rfl, ?_⟩) ?_ ?_
                rotate_left
                · intro w'
                  go_simp
                  with_reducible rfl
                rotate_left
                · simp only [Act.put, List.setIfInBounds_toArray, List.set_cons_zero, List.set_cons_succ, i64_w, i32_w]
                  rfl
                refine done_ (by kernel_rfl) ?_
                clear hHeld
                gi_wp2
                have yB := blk_frozen K3A.out 1
                refine startN_ (m := 10) (S := fun w' => w'.cell? ⟨gb, 1, none⟩ = some (.string x.f1)) (ds := [9]) #[false, false, false, false, false, false, false, false, false, false] (by kernel_rfl) rfl (by kernel_rfl) (by rintro ⟨a, w, h⟩; first | exact h | (obtain ⟨⟨v, hv⟩, _⟩ := h; cases hv)) rfl zB4 (fun hHeld => ?_)
                refine pure_ (i := 0) (N := some 63) (v := ?_) (a' := ?_) #[true, false, false, false, false, false, false, false, false, false] rfl rfl (by kernel_rfl) (fun _ _ _ h => h) (Or.inl ⟨by rfl, ?_⟩) ?_ ?_
                rotate_left
                · intro w'
                  go_simp
                  with_reducible rfl
                rotate_left
                · simp only [Act.put, List.setIfInBounds_toArray, List.set_cons_zero, List.set_cons_succ, i64_w, i32_w]
                  rfl
                refine take_ (i := 1) (N := some 64) (v := ?_) (a' := ?_) #[true, true, false, false, false, false, false, false, false, false] rfl rfl (by kernel_rfl) (fun _ _ _ h => h) (Or.inl ⟨by rfl, ?_⟩) hHeld ?_ ?_
                rotate_left
                · rintro w' s0
                  go_simp
                  with_reducible rfl
                rotate_left
                · simp only [Act.put, List.setIfInBounds_toArray, List.set_cons_zero, List.set_cons_succ, i64_w, i32_w]
                  rfl
                refine pure_ (i := 2) (N := some 65) (v := ?_) (a' := ?_) #[true, true, true, false, false, false, false, false, false, false] rfl rfl (by kernel_rfl) (fun _ _ _ h => h) (Or.inl ⟨by rfl, ?_⟩) ?_ ?_
                rotate_left
                · intro w'
                  go_simp
                  with_reducible rfl
                rotate_left
                · simp only [Act.put, List.setIfInBounds_toArray, List.set_cons_zero, List.set_cons_succ, i64_w, i32_w]
                  rfl
                refine pure_ (i := 3) (N := some 66) (v := ?_) (a' := ?_) #[true, true, true, true, false, false, false, false, false, false] rfl rfl (by kernel_rfl) (fun _ _ _ h => h) (Or.inl ⟨by rfl, ?_⟩) ?_ ?_
                rotate_left
                · intro w'
                  go_simp
                  with_reducible rfl
                rotate_left
                · simp only [Act.put, List.setIfInBounds_toArray, List.set_cons_zero, List.set_cons_succ, i64_w, i32_w, hu1]
                  rfl
                refine pure_ (i := 4) (N := some 67) (v := ?_) (a' := ?_) #[true, true, true, true, true, false, false, false, false, false] rfl rfl (by kernel_rfl) (fun _ _ _ h => h) (Or.inl ⟨by rfl, ?_⟩) ?_ ?_
                rotate_left
                · intro w'
                  go_simp
                  with_reducible rfl
                rotate_left
                · simp only [Act.put, List.setIfInBounds_toArray, List.set_cons_zero, List.set_cons_succ, i64_w, i32_w]
                  rfl
                refine pure_ (i := 5) (N := some 68) (v := ?_) (a' := ?_) #[true, true, true, true, true, true, false, false, false, false] rfl rfl (by kernel_rfl) (fun _ _ _ h => h) (Or.inl ⟨by rfl, ?_⟩) ?_ ?_
                rotate_left
                · intro w'
                  go_simp
                  with_reducible rfl
                rotate_left
                · simp only [Act.put, List.setIfInBounds_toArray, List.set_cons_zero, List.set_cons_succ, i64_w, i32_w]
                  rfl
                refine pure_ (i := 6) (N := some 69) (v := ?_) (a' := ?_) #[true, true, true, true, true, true, true, false, false, false] rfl rfl (by kernel_rfl) (fun _ _ _ h => h) (Or.inl ⟨by rfl, ?_⟩) ?_ ?_
                rotate_left
                · intro w'
                  go_simp
                  with_reducible rfl
                rotate_left
                · simp only [Act.put, List.setIfInBounds_toArray, List.set_cons_zero, List.set_cons_succ, i64_w, i32_w, hu2]
                  rfl
                refine pure_ (i := 7) (N := some 70) (v := ?_) (a' := ?_) #[true, true, true, true, true, true, true, true, false, false] rfl rfl (by kernel_rfl) (fun _ _ _ h => h) (Or.inl ⟨by rfl, ?_⟩) ?_ ?_
                rotate_left
                · intro w'
                  go_simp
                  with_reducible rfl
                rotate_left
                · simp only [Act.put, List.setIfInBounds_toArray, List.set_cons_zero, List.set_cons_succ, i64_w, i32_w, htt]
                  rfl
                refine pure_ (i := 8) (N := some 71) (v := ?_) (a' := ?_) #[true, true, true, true, true, true, true, true, true, false] rfl rfl (by kernel_rfl) (fun _ _ _ h => h) (Or.inl ⟨by rfl, ?_⟩) ?_ ?_
                rotate_left
                · intro w'
                  go_simp
                  with_reducible rfl
                rotate_left
                · simp only [Act.put, List.setIfInBounds_toArray, List.set_cons_zero, List.set_cons_succ, i64_w, i32_w]
                  rfl
                refine last_ (i := 9) (N := none) #[true, true, true, true, true, true, true, true, true, true] rfl rfl (by kernel_rfl) (by decide) (fun K hK => ?_)
                refine skip_ (w1 := w3.drew.drew.drew.setCell ⟨gb, 1, none⟩ (.string tt)) (by rfl) rfl ?hrun ?_
                case hrun => first | (go_simp; done) | (go_simp; rfl)
                refine hK.out _ _ ?_
                clear hK K
                refine done_ (by kernel_rfl) ?_
                have kS : (w3.drew.drew.drew.setCell ⟨gb, 1, none⟩ (.string tt)).heap[gb]? = some (.cells #[.int .i64 x.f0, .string tt] 79 (0, 0)) := blk_put (show w3.drew.drew.drew.heap[gb]? = _ from K3A.out) 1 _ rfl
                have hCS : CrashAt w rec g own d (some ad) c5 (some ad2) l.length cl (w3.drew.drew.drew.setCell ⟨gb, 1, none⟩ (.string tt)) ks := CrashAt.far (by repeat (first | exact HC3.out | apply CrashAt.drew)) (by repeat (first | exact HM3.out | apply DkAt.drew)) HGB.out 1 _
                generalize w3.drew.drew.drew.setCell ⟨gb, 1, none⟩ (.string tt) = WS at kS hCS ⊢
                clear hHeld zB0 zB1 zB2 zB3 zB4 zg3 y13 yB hu1 hu2 htt hat c7 HC3 K3A HM3
                have zS0 : WS.cell? ⟨gb, 0, none⟩ = some (.int .i64 x.f0) := (blk_cell kS 0).trans rfl
                have zS1 : WS.cell? ⟨gb, 1, none⟩ = some (.string tt) := (blk_cell kS 1).trans rfl
                obtain ⟨fn_, tm_, as_, bd_, hy, hR⟩ := hYield WS ks x.f0 tt hCS HKL.out HX.out.2.1 HXR.out
                have HR := Aside0.mk hR
                clear hR hCS kS
                gi_wp2
                refine HR.out.mono ?_
                rintro e W4 ⟨rfl, hC4⟩
                clear hy HR
                have HC4 := Aside0.mk hC4
                clear hC4
                gi_wp2
                go_roundw
                case rel => exact ⟨j + 1, _, by rw [wj], HJ1, HC4.out, ⟨by rw [← HT.out]; exact HK2.out⟩, ⟨putL_sizes hok.few.p0 HS.out (by rw [← HT.out]; exact tornS_size hok.few.p0 HX.out.2.1 HS.out HX.out.1)⟩, ⟨by rw [putL_len]; have := HN.out; have := HX.out; omega⟩⟩
                case measure => simp only [intOfV, wj]; have := HJ1.out; have := HJ.out; omega
            · rw [if_neg c2] at HK2
              have k3 : (c.f0 == 2) = false := beq_eq_false_iff_ne.mpr c2
              have k4 : decide (c.f0 = 2) = false := decide_eq_false c2
              clear c1 c2 hp0 hkl hxr hx0'
              gi_wp2
              go_roundw
              case rel => exact ⟨j + 1, ks, by rw [wj], HJ1, HA.out, HK2, HS, HN⟩
              case measure => simp only [intOfV, wj]; have := HJ1.out; have := HJ.out; omega
      · have ej : j = (d.pend.length : Int) := by have := HJ.out; omega
        have d1 : decide (j < (d.pend.length : Int)) = false := decide_eq_false cj
        have hk := HK.out
        rw [ej, show ((d.pend.length : Int)).toNat = d.pend.length by omega, List.drop_length, crashL_done] at hk
        have HC := Aside0.mk hC
        clear hC cj ej
        gi_wp2
        go_end0
        exact ⟨⟨_, rfl⟩, hk ▸ HC.out⟩
  clear hYield hC0
  refine hIter.mono ?_
  rintro e W ⟨⟨v, rfl⟩, hC⟩
  refine ⟨⟨v, rfl⟩, .inl ⟨hC.lp, ?_⟩⟩
  clear hIter
  obtain ⟨KL, hK0⟩ : ∃ KL, crashL d.p d.kept d.pend l = KL := ⟨_, rfl⟩
  rw [hK0] at hC
  have hlt := blk_lt hC.lp
  have o4 : ∀ k, k ≠ w.heap.size + 4 → (W.putObj (w.heap.size + 3 + 1) (.loop (rec .exhausted none))).heap[k]? = W.heap[k]? := fun k hk => World.putObj_heap_other (by omega)
  have s4 : (W.putObj (w.heap.size + 3 + 1) (.loop (rec .exhausted none))).heap.size = W.heap.size := by simp
  have v4 : Env W (W.putObj (w.heap.size + 3 + 1) (.loop (rec .exhausted none))) := ⟨rfl, rfl, rfl⟩
  generalize W.putObj (w.heap.size + 3 + 1) (.loop (rec .exhausted none)) = W4 at o4 s4 v4 ⊢
  have hgl := hC.glt
  have hD4 : DkAt W4 g own { d with kept := KL, M := crashM w d } := hC.dk.step (by omega) (fun k hk ho => o4 k (by
    rcases ho with rfl | ho
    · omega
    · rcases ho.2 with q | q <;> omega))
  have HBX := Aside0.mk ((o4 w.heap.size (by omega)).trans hC.b0)
  have HDD := Aside0.mk ((o4 (w.heap.size + 3) (by omega)).trans hC.dd)
  have HKB := Aside0.mk (show Kp w W4 g none from ⟨⟨by have := hC.kb.1.1; omega, fun k h1 h2 h3 => (o4 k (by omega)).trans (hC.kb.1.2 k h1 h2 h3)⟩, hC.kb.2.trans v4⟩)
  have HGL := Aside0.mk hgl
  have hbg : w.heap.size ≠ g := by omega
  obtain ⟨A3, c3, A4, c4, A5', c5', h0, h1, h2, h3, h4, h5⟩ := hD4
  have K0 := Aside0.mk h0
  have K1 := Aside0.mk (blk_put (show W4.drew.heap[g]? = _ from h0) 4 (.slice A3 KL.length c3) rfl)
  have K2 := Aside0.mk (blk_put K1.out 5 (.slice none 0 0) rfl)
  have K3 := Aside0.mk (blk_put K2.out 6 (.int .i64 (-1)) rfl)
  have y4 := blk_frozen h0 4
  have y5 := blk_frozen h0 5
  have y6 := blk_frozen h0 6
  have x4 : W4.cell? ⟨g, 4, none⟩ = some (.slice A4 d.now.length c4) := (blk_cell h0 4).trans rfl
  have x5 : W4.cell? ⟨g, 5, none⟩ = some (.slice A5' d.pend.length c5') := (blk_cell h0 5).trans rfl
  have x6 : W4.cell? ⟨g, 6, none⟩ = some (.int .i64 d.left) := (blk_cell h0 6).trans rfl
  have HV := Aside0.mk (Kd.V_mono (ok' := fun k => k ≠ g ∧ some k ≠ none ∧ crashM w d k) h1 (fun k hk => ⟨hk.1, by simp, hk.2.2⟩))
  have H5 := Aside0.mk h5
  clear h0 h1 h2 h3 h4 h5 o4 s4 v4 hlt hgl hC hok hl hz
  gi_wp2
  refine wpIn_mono (Q := OnlyN (fun a W' => a.defers = [{ target := .collected (w.heap.size + 3), args := #[] }] ∧ W' = (((W4.drew.setCell ⟨g, 4, none⟩ (.slice A3 KL.length c3)).setCell ⟨g, 5, none⟩ (.slice none 0 0)).setCell ⟨g, 6, none⟩ (.int .i64 (-1))))) ?_ ?_
  · refine startN_ (m := 16) (S := fun w' => w'.cell? ⟨w.heap.size, 0, none⟩ = some (.pointer (some ⟨g, 0, none⟩)) ∧ w'.cell? ⟨g, 3, none⟩ = some (.slice A3 KL.length c3)) (ds := []) #[false, false, false, false, false, false, false, false, false, false, false, false, false, false, false, false] (by kernel_rfl) rfl (by kernel_rfl) (by rintro ⟨a, w, h⟩; exact h) rfl ⟨(blk_cell HBX.out 0).trans rfl, (blk_cell K0.out 3).trans rfl⟩ (fun hHeld => ?_)
    refine take_ (i := 0) (N := some 19) (v := ?_) (a' := ?_) #[true, false, false, false, false, false, false, false, false, false, false, false, false, false, false, false] rfl rfl (by kernel_rfl) (fun _ _ _ h => h) (Or.inl ⟨by rfl, ?_⟩) hHeld ?_ ?_
    rotate_left
    · rintro w' ⟨s0, s1⟩
      go_simp
      with_reducible rfl
    rotate_left
    · simp only [Act.put, List.setIfInBounds_toArray, List.set_cons_zero, List.set_cons_succ, i64_w, i32_w]
      rfl
    refine take_ (i := 1) (N := some 20) (v := ?_) (a' := ?_) #[true, true, false, false, false, false, false, false, false, false, false, false, false, false, false, false] rfl rfl (by kernel_rfl) (fun _ _ _ h => h) (Or.inl ⟨by rfl, ?_⟩) hHeld ?_ ?_
    rotate_left
    · rintro w' ⟨s0, s1⟩
      go_simp
      with_reducible rfl
    rotate_left
    · simp only [Act.put, List.setIfInBounds_toArray, List.set_cons_zero, List.set_cons_succ, i64_w, i32_w]
      rfl
    refine take_ (i := 2) (N := some 21) (v := ?_) (a' := ?_) #[true, true, true, false, false, false, false, false, false, false, false, false, false, false, false, false] rfl rfl (by kernel_rfl) (fun _ _ _ h => h) (Or.inl ⟨by rfl, ?_⟩) hHeld ?_ ?_
    rotate_left
    · rintro w' ⟨s0, s1⟩
      go_simp
      with_reducible rfl
    rotate_left
    · simp only [Act.put, List.setIfInBounds_toArray, List.set_cons_zero, List.set_cons_succ, i64_w, i32_w]
      rfl
    refine take_ (i := 3) (N := some 22) (v := ?_) (a' := ?_) #[true, true, true, true, false, false, false, false, false, false, false, false, false, false, false, false] rfl rfl (by kernel_rfl) (fun _ _ _ h => h) (Or.inl ⟨by rfl, ?_⟩) hHeld ?_ ?_
    rotate_left
    · rintro w' ⟨s0, s1⟩
      go_simp
      with_reducible rfl
    rotate_left
    · simp only [Act.put, List.setIfInBounds_toArray, List.set_cons_zero, List.set_cons_succ, i64_w, i32_w]
      rfl
    refine pure_ (i := 4) (N := some 23) (v := ?_) (a' := ?_) #[true, true, true, true, true, false, false, false, false, false, false, false, false, false, false, false] rfl rfl (by kernel_rfl) (fun _ _ _ h => h) (Or.inl ⟨by rfl, ?_⟩) ?_ ?_
    rotate_left
    · intro w'
      go_simp
      with_reducible rfl
    rotate_left
    · simp only [Act.put, List.setIfInBounds_toArray, List.set_cons_zero, List.set_cons_succ, i64_w, i32_w]
      rfl
    refine pure_ (i := 5) (N := some 24) (v := ?_) (a' := ?_) #[true, true, true, true, true, true, false, false, false, false, false, false, false, false, false, false] rfl rfl (by kernel_rfl) (fun _ _ _ h => h) (Or.inl ⟨by rfl, ?_⟩) ?_ ?_
    rotate_left
    · intro w'
      go_simp
      with_reducible rfl
    rotate_left
    · simp only [Act.put, List.setIfInBounds_toArray, List.set_cons_zero, List.set_cons_succ, i64_w, i32_w]
      rfl
    refine take_ (i := 6) (N := some 25) (v := ?_) (a' := ?_) #[true, true, true, true, true, true, true, false, false, false, false, false, false, false, false, false] rfl rfl (by kernel_rfl) (fun _ _ _ h => h) (Or.inl ⟨by rfl, ?_⟩) hHeld ?_ ?_
    rotate_left
    · rintro w' ⟨s0, s1⟩
      go_simp
      with_reducible rfl
    rotate_left
    · simp only [Act.put, List.setIfInBounds_toArray, List.set_cons_zero, List.set_cons_succ, i64_w, i32_w]
      rfl
    refine pure_ (i := 7) (N := some 26) (v := ?_) (a' := ?_) #[true, true, true, true, true, true, true, true, false, false, false, false, false, false, false, false] rfl rfl (by kernel_rfl) (fun _ _ _ h => h) (Or.inl ⟨by rfl, ?_⟩) ?_ ?_
    rotate_left
    · intro w'
      go_simp
      with_reducible rfl
    rotate_left
    · simp only [Act.put, List.setIfInBounds_toArray, List.set_cons_zero, List.set_cons_succ, i64_w, i32_w]
      rfl
    refine pure_ (i := 8) (N := some 27) (v := ?_) (a' := ?_) #[true, true, true, true, true, true, true, true, true, false, false, false, false, false, false, false] rfl rfl (by kernel_rfl) (fun _ _ _ h => h) (Or.inl ⟨by rfl, ?_⟩) ?_ ?_
    rotate_left
    · intro w'
      go_simp
      with_reducible rfl
    rotate_left
    · simp only [Act.put, List.setIfInBounds_toArray, List.set_cons_zero, List.set_cons_succ, i64_w, i32_w]
      rfl
    refine one_ (i := 9) (N := none) #[true, true, true, true, true, true, true, true, true, true, false, false, false, false, false, false] rfl rfl (by kernel_rfl) (by decide) (fun K hK => ?_)
    refine skip_ (w1 := (W4.drew.setCell ⟨g, 4, none⟩ (.slice A3 KL.length c3))) (by rfl) rfl ?hrun ?_
    case hrun => first | (go_simp; done) | (go_simp; rfl)
    refine hK.out _ _ ⟨(blk_cell (blk_far (show W4.drew.heap[w.heap.size]? = _ from HBX.out) hbg _) 0).trans rfl, (blk_cell K1.out 3).trans rfl⟩ (fun hHeld => ?_)
    clear hK K
    refine pure_ (i := 10) (N := some 28) (v := ?_) (a' := ?_) #[true, true, true, true, true, true, true, true, true, true, true, false, false, false, false, false] rfl rfl (by kernel_rfl) (fun _ _ _ h => h) (Or.inl ⟨by rfl, ?_⟩) ?_ ?_
    rotate_left
    · intro w'
      go_simp
      with_reducible rfl
    rotate_left
    · simp only [Act.put, List.setIfInBounds_toArray, List.set_cons_zero, List.set_cons_succ, i64_w, i32_w]
      rfl
    refine pure_ (i := 11) (N := some 29) (v := ?_) (a' := ?_) #[true, true, true, true, true, true, true, true, true, true, true, true, false, false, false, false] rfl rfl (by kernel_rfl) (fun _ _ _ h => h) (Or.inl ⟨by rfl, ?_⟩) ?_ ?_
    rotate_left
    · intro w'
      go_simp
      with_reducible rfl
    rotate_left
    · simp only [Act.put, List.setIfInBounds_toArray, List.set_cons_zero, List.set_cons_succ, i64_w, i32_w]
      rfl
    refine one_ (i := 12) (N := none) #[true, true, true, true, true, true, true, true, true, true, true, true, true, false, false, false] rfl rfl (by kernel_rfl) (by decide) (fun K hK => ?_)
    refine skip_ (w1 := ((W4.drew.setCell ⟨g, 4, none⟩ (.slice A3 KL.length c3)).setCell ⟨g, 5, none⟩ (.slice none 0 0))) (by rfl) rfl ?hrun ?_
    case hrun => first | (go_simp; done) | (go_simp; rfl)
    refine hK.out _ _ ⟨(blk_cell (blk_far (blk_far (show W4.drew.heap[w.heap.size]? = _ from HBX.out) hbg _) hbg _) 0).trans rfl, (blk_cell K2.out 3).trans rfl⟩ (fun hHeld => ?_)
    clear hK K
    refine pure_ (i := 13) (N := some 30) (v := ?_) (a' := ?_) #[true, true, true, true, true, true, true, true, true, true, true, true, true, true, false, false] rfl rfl (by kernel_rfl) (fun _ _ _ h => h) (Or.inl ⟨by rfl, ?_⟩) ?_ ?_
    rotate_left
    · intro w'
      go_simp
      with_reducible rfl
    rotate_left
    · simp only [Act.put, List.setIfInBounds_toArray, List.set_cons_zero, List.set_cons_succ, i64_w, i32_w]
      rfl
    refine pure_ (i := 14) (N := some 31) (v := ?_) (a' := ?_) #[true, true, true, true, true, true, true, true, true, true, true, true, true, true, true, false] rfl rfl (by kernel_rfl) (fun _ _ _ h => h) (Or.inl ⟨by rfl, ?_⟩) ?_ ?_
    rotate_left
    · intro w'
      go_simp
      with_reducible rfl
    rotate_left
    · simp only [Act.put, List.setIfInBounds_toArray, List.set_cons_zero, List.set_cons_succ, i64_w, i32_w]
      rfl
    refine one_ (i := 15) (N := none) #[true, true, true, true, true, true, true, true, true, true, true, true, true, true, true, true] rfl rfl (by kernel_rfl) (by decide) (fun K hK => ?_)
    refine skip_ (w1 := (((W4.drew.setCell ⟨g, 4, none⟩ (.slice A3 KL.length c3)).setCell ⟨g, 5, none⟩ (.slice none 0 0)).setCell ⟨g, 6, none⟩ (.int .i64 (-1)))) (by rfl) rfl ?hrun ?_
    case hrun => first | (go_simp; done) | (go_simp; rfl)
    refine hK.out _ _ ⟨(blk_cell (blk_far (blk_far (blk_far (show W4.drew.heap[w.heap.size]? = _ from HBX.out) hbg _) hbg _) hbg _) 0).trans rfl, (blk_cell K3.out 3).trans rfl⟩ (fun hHeld => ?_)
    clear hK K
    refine done_ (by kernel_rfl) ?_
    exact ⟨rfl, rfl⟩
  rintro e a W' h
  cases e with
  | normal =>
    obtain ⟨hd, hw⟩ := h
    obtain ⟨tm, df⟩ := a
    obtain rfl : df = _ := hd
    have hD5 : DkAt W' g none { d with kept := KL, now := KL, pend := [], left := -1, M := crashM w d } := by
      rw [hw]
      refine ⟨A3, c3, A3, c3, none, 0, K3.out, ?_, ?_, Kd.R_nil _ _ _ _ _, rfl, fun k hk => H5.out k (by simpa [World.setCell] using hk)⟩
      · exact Kd.V_far (Kd.V_far (Kd.V_far (Kd.V_drew HV.out) (fun _ hk => hk.1) _) (fun _ hk => hk.1) _) (fun _ hk => hk.1) _
      · exact Kd.V_far (Kd.V_far (Kd.V_far (Kd.V_drew HV.out) (fun _ hk => hk.1) _) (fun _ hk => hk.1) _) (fun _ hk => hk.1) _
    have hK5 : Kp w W' g none := by rw [hw]; exact (((kp_drew HKB.out).set_ 4 _).set_ 5 _).set_ 6 _
    have hdd5 : W'.heap[w.heap.size + 3]? = some (.deferred (some [])) := by
      rw [hw]
      exact (Below.heap_setCell _ _ _ _ (by have := HGL.out; simp; omega)).trans ((Below.heap_setCell _ _ _ _ (by have := HGL.out; simp; omega)).trans ((Below.heap_setCell _ _ _ _ (by have := HGL.out; simp; omega)).trans HDD.out))
    clear hw
    have hlt5 := blk_lt hdd5
    have hgl := HGL.out
    have o6 : ∀ k, k ≠ w.heap.size + 3 → (W'.putObj (w.heap.size + 3) (.deferred none)).heap[k]? = W'.heap[k]? := fun k hk => World.putObj_heap_other (by omega)
    refine ⟨by simp, .inl ⟨_, _, rfl, run_takeDeferred hdd5, ?_⟩⟩
    refine ⟨_, results_none rfl _ _ _, rfl, ?_, ?_⟩
    · rw [hK0]
      refine (hD5.step (by simp) (fun k hk ho => o6 k (by
        rcases ho with rfl | ho
        · omega
        · rcases ho.2 with q | q <;> omega))).reM d.M (fun k _ hm => hm.1) (fun k hk => (hD5.fresh k (by simpa using hk)).1)
    · exact ⟨⟨by have := hK5.1.1; simpa using this, fun k h1 h2 h3 => (o6 k (by omega)).trans (hK5.1.2 k h1 h2 h3)⟩, hK5.2.trans ⟨rfl, rfl, rfl⟩⟩
  | _ => exact h.elim
end Go.Proofs.Ytnmdpjbpbiempaa.P
