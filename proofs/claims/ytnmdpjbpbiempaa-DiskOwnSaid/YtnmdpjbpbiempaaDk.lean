/- What is proved here: what a disk is in memory, and what its small calls do (how many pages, how many reads, a page read, a limit). Conditions: none. -/
import Derived.Test.YtnmdpjbpbiempaaP1
set_option linter.unusedVariables false
set_option linter.unusedSimpArgs false
namespace Go.Proofs.Ytnmdpjbpbiempaa.P
open Go.RowKit Go.Proofs.YtnmdpjbpbiempaaW.PrintWords Go.Proofs.YtnmdpjbpbiempaaW.PrintLast Go.Proofs.YtnmdpjbpbiempaaW.PrintMore
/-- What lies outside of memory is as it was. -/
def Env (w w' : World) : Prop := w'.os = w.os ∧ w'.tape = w.tape ∧ w'.output = w.output
theorem Env.refl (w : World) : Env w w := ⟨rfl, rfl, rfl⟩
theorem Env.trans {w w1 w2 : World} (h : Env w w1) (k : Env w1 w2) : Env w w2 := ⟨k.1.trans h.1, k.2.1.trans h.2.1, k.2.2.trans h.2.2⟩
theorem Env.symm {w w1 : World} (h : Env w w1) : Env w1 w := ⟨h.1.symm, h.2.1.symm, h.2.2.symm⟩
theorem Env.of_below {w w1 : World} {n : Nat} (h : Below n w w1) : Env w w1 := ⟨h.os, h.tape, h.output⟩
/-- What a call leaves as it was: the blocks but g and a row; and what lies outside of memory. -/
def Kp (w w' : World) (g : Nat) (row : Option Nat) : Prop := KeepBut w w' g row ∧ Env w w'
theorem Kp.refl (w : World) (g : Nat) (row : Option Nat) : Kp w w g row := ⟨KeepBut.refl w g row, Env.refl w⟩
theorem Kp.mk' {w w' : World} {g : Nat} {row : Option Nat} {w0 : World} {n m : Nat} (h : KeepBut w w' g row) (b : Below n w0 w) (b' : Below m w0 w') : Kp w w' g row := ⟨h, (Env.of_below b).symm.trans (Env.of_below b')⟩
theorem Kp.set_ {w w1 : World} {g : Nat} {row : Option Nat} (h : Kp w w1 g row) (j : Nat) (u : Value) : Kp w (w1.setCell ⟨g, j, none⟩ u) g row := ⟨h.1.set_ j u, h.2⟩
theorem kp_far {w W : World} {g : Nat} {row : Option Nat} (h : Kp w W g row) {p : Addr} (hp : w.heap.size ≤ p.block) (u : Value) : Kp w (W.setCell p u) g row := ⟨keep_far h.1 hp u, h.2⟩
theorem kp_drewN {w W : World} {g : Nat} {row : Option Nat} (h : Kp w W g row) (m : Nat) : Kp w (W.drewN m) g row := h
theorem kp_drew {w W : World} {g : Nat} {row : Option Nat} (h : Kp w W g row) : Kp w W.drew g row := h
theorem kp_alloc {w W : World} {g : Nat} (h : Kp w W g none) (o : Obj) : Kp w (W.alloc o) g none := ⟨keep_alloc h.1 o, h.2⟩
theorem Kp.trans {w w1 w2 : World} {g : Nat} {row row1 : Option Nat} (h : Kp w w1 g row) (k : Kp w1 w2 g row1) (hr : row1 = row ∨ ∃ b, row1 = some b ∧ w.heap.size ≤ b) : Kp w w2 g row := ⟨h.1.trans k.1 hr, h.2.trans k.2⟩
theorem Kp.of_below {w w1 : World} {n : Nat} (h : Below n w w1) (hn : n = w.heap.size) (g : Nat) (row : Option Nat) : Kp w w1 g row := by subst hn; exact ⟨KeepBut.of_below h g row, Env.of_below h⟩
theorem Kp.keep {w w' : World} {g : Nat} {row : Option Nat} (h : Kp w w' g row) : KeepBut w w' g row := h.1
/-- A disk, as plain data. -/
structure Dk where
  p : Int
  room : Int
  reads : Int
  kept : List ByteArray
  now : List ByteArray
  pend : List S79
  left : Int
  /-- The blocks that its lists may stand in (no memory's fact; all new ones are). -/
  M : Nat → Prop := fun _ => True
/-- A disk in memory, in block g: its lists are read beside g and beside the block of what is pending ('own'). -/
def DkAt (W : World) (g : Nat) (own : Option Nat) (d : Dk) : Prop :=
  ∃ (A3 : Option Addr) (c3 : Nat) (A4 : Option Addr) (c4 : Nat) (A5 : Option Addr) (c5 : Nat),
    W.heap[g]? = some (.cells #[.int .i64 d.p, .int .i64 d.room, .int .i64 d.reads, .slice A3 d.kept.length c3, .slice A4 d.now.length c4, .slice A5 d.pend.length c5, .int .i64 d.left] 67 (0, 0)) ∧
    Kd.V Kd.string 9 W 0 (fun k => k ≠ g ∧ some k ≠ own ∧ d.M k) (.slice A3 d.kept.length c3) d.kept ∧ Kd.V Kd.string 9 W 0 (fun k => k ≠ g ∧ some k ≠ own ∧ d.M k) (.slice A4 d.now.length c4) d.now ∧
    Kd.R k79 79 W 0 (fun k => k ≠ g ∧ d.M k) (.slice A5 d.pend.length c5) d.pend ∧ (Value.slice A5 d.pend.length c5).ownBlock = own ∧ (∀ k, W.heap.size ≤ k → d.M k)
theorem DkAt.below {W W' : World} {g : Nat} {own : Option Nat} {d : Dk} (h : DkAt W g own d) (hb : Below W.heap.size W W') : DkAt W' g own d := by
  obtain ⟨A3, c3, A4, c4, A5, c5, h0, h1, h2, h3, h4, h5⟩ := h
  exact ⟨A3, c3, A4, c4, A5, c5, (hb.block _ (blk_lt h0)).trans h0, Kd.V_below h1 hb, Kd.V_below h2 hb, Kd.R_below h3 hb, h4, fun k hk => h5 k (Nat.le_trans hb.size hk)⟩
theorem DkAt.alloc {W : World} {g : Nat} {own : Option Nat} {d : Dk} (h : DkAt W g own d) (o : Obj) : DkAt (W.alloc o) g own d := h.below (below_alloc (Below.refl _ _) o)
theorem DkAt.drewN {W : World} {g : Nat} {own : Option Nat} {d : Dk} (h : DkAt W g own d) (m : Nat) : DkAt (W.drewN m) g own d := h.below (pw_below_drewN (Below.refl _ _) m)
theorem DkAt.drew {W : World} {g : Nat} {own : Option Nat} {d : Dk} (h : DkAt W g own d) : DkAt W.drew g own d := h.below (below_drew1 (Below.refl _ _))
/-- How many were read, and what is left, stored. -/
theorem DkAt.setReads {W : World} {g : Nat} {own : Option Nat} {d : Dk} (h : DkAt W g own d) (x : Int) : DkAt (W.setCell ⟨g, 2, none⟩ (.int .i64 x)) g own { d with reads := x } := by
  obtain ⟨A3, c3, A4, c4, A5, c5, h0, h1, h2, h3, h4, h5⟩ := h
  exact ⟨A3, c3, A4, c4, A5, c5, blk_put h0 2 _ rfl, Kd.V_far h1 (fun _ hk => hk.1) _, Kd.V_far h2 (fun _ hk => hk.1) _, Kd.R_far h3 (fun _ hk => hk.1) _, h4, fun k hk => h5 k (by simpa using hk)⟩
theorem DkAt.setLeft {W : World} {g : Nat} {own : Option Nat} {d : Dk} (h : DkAt W g own d) (x : Int) : DkAt (W.setCell ⟨g, 6, none⟩ (.int .i64 x)) g own { d with left := x } := by
  obtain ⟨A3, c3, A4, c4, A5, c5, h0, h1, h2, h3, h4, h5⟩ := h
  exact ⟨A3, c3, A4, c4, A5, c5, blk_put h0 6 _ rfl, Kd.V_far h1 (fun _ hk => hk.1) _, Kd.V_far h2 (fun _ hk => hk.1) _, Kd.R_far h3 (fun _ hk => hk.1) _, h4, fun k hk => h5 k (by simpa using hk)⟩
set_option maxHeartbeats 8000000 in
set_option maxRecDepth 100000 in
theorem dk_Len (w : World) (g : Nat) (own : Option Nat) (d : Dk) (h : DkAt w g own d) :
    Calls Try.prog 15 #[.pointer (some ⟨g, 0, none⟩)] w fun e w' => e = .returned (.int .i64 (d.now.length : Int)) ∧ DkAt w' g own d ∧ Kp w w' g none ∧ Below w.heap.size w w' := by
  have HI := Aside0.mk h
  have HK := Aside0.mk (Kp.refl w g none)
  obtain ⟨A3, c3, A4, c4, A5, c5, h0, -⟩ := h
  have hc4 := cellS67_4 h0
  have hf4 := blk_frozen h0 4
  clear h0
  go_enter Try.func15, Try.ntmps15
  go_wp2
  go_ret
  exact ⟨by first | rfl | (simp; done), by repeat (first | (with_reducible first | exact HI.out | apply DkAt.alloc | apply DkAt.drewN | apply DkAt.drew) | exact HI.out), by repeat (first | (with_reducible first | exact HK.out | apply kp_drewN | apply kp_drew | apply kp_alloc) | exact HK.out), by repeat (first | exact Below.refl _ _ | apply pw_below_drewN | apply below_drew1)⟩
set_option maxHeartbeats 8000000 in
set_option maxRecDepth 100000 in
theorem dk_Reads (w : World) (g : Nat) (own : Option Nat) (d : Dk) (h : DkAt w g own d) :
    Calls Try.prog 17 #[.pointer (some ⟨g, 0, none⟩)] w fun e w' => e = .returned (.int .i64 d.reads) ∧ DkAt w' g own d ∧ Kp w w' g none ∧ Below w.heap.size w w' := by
  have HI := Aside0.mk h
  have HK := Aside0.mk (Kp.refl w g none)
  obtain ⟨A3, c3, A4, c4, A5, c5, h0, -⟩ := h
  have hc4 := cellS67_2 h0
  have hf4 := blk_frozen h0 2
  clear h0
  go_enter Try.func17, Try.ntmps17
  go_wp2
  go_ret
  exact ⟨by first | rfl | (simp; done), by repeat (first | (with_reducible first | exact HI.out | apply DkAt.alloc | apply DkAt.drewN | apply DkAt.drew) | exact HI.out), by repeat (first | (with_reducible first | exact HK.out | apply kp_drewN | apply kp_drew | apply kp_alloc) | exact HK.out), by repeat (first | exact Below.refl _ _ | apply pw_below_drewN | apply below_drew1)⟩
set_option maxHeartbeats 8000000 in
set_option maxRecDepth 100000 in
theorem dk_ask (w : World) (g : Nat) (own : Option Nat) (d : Dk) (h : DkAt w g own d) :
    Calls Try.prog 40 #[.pointer (some ⟨g, 0, none⟩)] w fun e w' => e = .returned (.bool (d.left != 0)) ∧ DkAt w' g own d ∧ Kp w w' g none ∧ Below w.heap.size w w' := by
  have HI := Aside0.mk h
  have HK := Aside0.mk (Kp.refl w g none)
  obtain ⟨A3, c3, A4, c4, A5, c5, h0, -⟩ := h
  have hc4 := cellS67_6 h0
  have hf4 := blk_frozen h0 6
  clear h0
  go_enter Try.func40, Try.ntmps40
  go_wp2
  go_ret
  exact ⟨by first | rfl | (simp; done), by repeat (first | (with_reducible first | exact HI.out | apply DkAt.alloc | apply DkAt.drewN | apply DkAt.drew) | exact HI.out), by repeat (first | (with_reducible first | exact HK.out | apply kp_drewN | apply kp_drew | apply kp_alloc) | exact HK.out), by repeat (first | exact Below.refl _ _ | apply pw_below_drewN | apply below_drew1)⟩
end Go.Proofs.Ytnmdpjbpbiempaa.P
