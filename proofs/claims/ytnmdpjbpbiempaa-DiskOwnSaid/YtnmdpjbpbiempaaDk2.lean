/- What is proved here: what a page that is read, a limit, a call that is counted, and all pages are, of a disk in memory. Conditions: as each theorem names them. -/
import Derived.Test.YtnmdpjbpbiempaaDk
set_option linter.unusedVariables false
set_option linter.unusedSimpArgs false
namespace Go.Proofs.Ytnmdpjbpbiempaa.P
open Go.RowKit Go.Proofs.YtnmdpjbpbiempaaW.PrintWords Go.Proofs.YtnmdpjbpbiempaaW.PrintLast Go.Proofs.YtnmdpjbpbiempaaW.PrintMore
theorem DkAt.grown {W W' : World} {g : Nat} {own : Option Nat} {d : Dk} (h : DkAt W g own d) (hw : W.grownBy W' none) : DkAt W' g own d := by
  obtain ⟨A3, c3, A4, c4, A5, c5, h0, h1, h2, h3, h4, h5⟩ := h
  exact ⟨A3, c3, A4, c4, A5, c5, (hw.block _ (blk_lt h0) (by simp)).trans h0, Kd.V_step h1 (fun k _ hk => hw.block k hk (by simp)), Kd.V_step h2 (fun k _ hk => hw.block k hk (by simp)), Kd.R_step h3 (fun k _ hk => hw.block k hk (by simp)), h4, fun k hk => h5 k (Nat.le_trans hw.size hk)⟩
/-- What reading the i-th page answers. -/
def Dk.read (d : Dk) (i : Int) : ByteArray × Int := if i < 0 then (⟨#[]⟩, 4) else if i ≥ (d.now.length : Int) then (⟨#[]⟩, 4) else (rdOf ByteArray.empty d.now i, 0)
set_option maxHeartbeats 8000000 in
set_option maxRecDepth 100000 in
theorem dk_Read (w : World) (g : Nat) (own : Option Nat) (d : Dk) (i : Int) (h : DkAt w g own d) :
    Calls Try.prog 29 #[.pointer (some ⟨g, 0, none⟩), .int .i64 i] w fun e w' => e = .returned (.tuple #[.string (d.read i).1, .int .i64 (d.read i).2]) ∧ DkAt w' g own { d with reads := wrap64 (d.reads + 1) } ∧ Kp w w' g none := by
  have HI := Aside0.mk (h.setReads (wrap64 (d.reads + 1)))
  have HK := Aside0.mk (Kp.refl w g none)
  obtain ⟨A3, c3, A4, c4, A5, c5, h0, h1, h2, h3, h4⟩ := h
  have hc2 := cellS67_2 h0
  have hc4 := cellS67_4 h0
  have hf2 := blk_frozen h0 2
  have hf4 := blk_frozen h0 4
  have hV := Kd.V_far (p := ⟨g, 2, none⟩) h2 (fun _ hk => hk.1) (.int .i64 (wrap64 (d.reads + 1)))
  clear h0 h1 h2 h3 h4
  unfold Dk.read
  by_cases c3 : i < 0
  · rw [if_pos c3]
    have c3b0 : decide (i < 0) = true := decide_eq_true c3
    clear c3 hV
    go_enter Try.func29, Try.ntmps29
    go_wp2
    go_ret2
    exact ⟨by first | rfl | (simp; done), by repeat (first | (with_reducible first | exact HI.out | apply DkAt.alloc | apply DkAt.drewN | apply DkAt.drew) | exact HI.out), by repeat (first | (with_reducible first | exact HK.out | apply Kp.set_ | apply kp_drewN | apply kp_drew | apply kp_alloc) | exact HK.out)⟩
  rw [if_neg c3]
  have c3b0 : decide (i < 0) = false := decide_eq_false c3
  by_cases c5 : i ≥ (d.now.length : Int)
  · rw [if_pos c5]
    have c5b0 : decide ((d.now.length : Int) ≤ i) = true := decide_eq_true c5
    clear c3 c5 hV
    go_enter Try.func29, Try.ntmps29
    go_wp2
    go_ret2
    exact ⟨by first | rfl | (simp; done), by repeat (first | (with_reducible first | exact HI.out | apply DkAt.alloc | apply DkAt.drewN | apply DkAt.drew) | exact HI.out), by repeat (first | (with_reducible first | exact HK.out | apply Kp.set_ | apply kp_drewN | apply kp_drew | apply kp_alloc) | exact HK.out)⟩
  rw [if_neg c5]
  have c5b0 : decide ((d.now.length : Int) ≤ i) = false := decide_eq_false c5
  have p1 : 0 ≤ i := by omega
  have q1 : i < (d.now.length : Int) := by omega
  obtain ⟨ad, e1, hx⟩ := Kd.at_string (Kd.V_reads' hV).2.2 i p1 q1
  cases e1
  clear c3 c5 hV
  replace p1 := eq_true p1
  replace q1 := eq_true q1
  go_enter Try.func29, Try.ntmps29
  go_wp2
  go_ret2
  exact ⟨by first | rfl | (simp; done), by repeat (first | (with_reducible first | exact HI.out | apply DkAt.alloc | apply DkAt.drewN | apply DkAt.drew) | exact HI.out), by repeat (first | (with_reducible first | exact HK.out | apply Kp.set_ | apply kp_drewN | apply kp_drew | apply kp_alloc) | exact HK.out)⟩
set_option maxHeartbeats 8000000 in
set_option maxRecDepth 100000 in
theorem dk_Limit (w : World) (g : Nat) (own : Option Nat) (d : Dk) (n : Int) (h : DkAt w g own d) :
    Calls Try.prog 28 #[.pointer (some ⟨g, 0, none⟩), .int .i64 n] w fun e w' => e = .returned (.tuple #[]) ∧ DkAt w' g own { d with left := max n 0 } ∧ Kp w w' g none := by
  have HI := Aside0.mk (h.setLeft (max n 0))
  have HK := Aside0.mk (Kp.refl w g none)
  obtain ⟨A3, c3, A4, c4, A5, c5, h0, -⟩ := h
  have hc6 := cellS67_6 h0
  have hf6 := blk_frozen h0 6
  clear h0
  go_enter Try.func28, Try.ntmps28
  go_wp2
  first | go_end0 | ((try simp only [Exit.inBlock, Exit.then]); refine bodyPost_ret (results_none rfl _ _ _) rfl ?_)
  exact ⟨by first | rfl | (simp; done), by repeat (first | (with_reducible first | exact HI.out | apply DkAt.alloc | apply DkAt.drewN | apply DkAt.drew) | exact HI.out), by repeat (first | (with_reducible first | exact HK.out | apply Kp.set_ | apply kp_drewN | apply kp_drew | apply kp_alloc) | exact HK.out)⟩
set_option maxHeartbeats 8000000 in
set_option maxRecDepth 100000 in
theorem dk_done (w : World) (g : Nat) (own : Option Nat) (d : Dk) (h : DkAt w g own d) :
    Calls Try.prog 42 #[.pointer (some ⟨g, 0, none⟩)] w fun e w' => e = .returned (.tuple #[]) ∧ DkAt w' g own { d with left := if d.left > 0 then wrap64 (d.left - 1) else d.left } ∧ Kp w w' g none := by
  have HJ := Aside0.mk h
  have HI := Aside0.mk (h.setLeft (wrap64 (d.left - 1)))
  have HK := Aside0.mk (Kp.refl w g none)
  obtain ⟨A3, c3, A4, c4, A5, c5, h0, -⟩ := h
  have hc6 := cellS67_6 h0
  have hf6 := blk_frozen h0 6
  clear h0
  by_cases c : d.left > 0
  · rw [if_pos c]
    have c0 : decide (0 < d.left) = true := decide_eq_true c
    clear c HJ
    go_enter Try.func42, Try.ntmps42
    go_wp2
    first | go_end0 | ((try simp only [Exit.inBlock, Exit.then]); refine bodyPost_ret (results_none rfl _ _ _) rfl ?_)
    exact ⟨by first | rfl | (simp; done), by repeat (first | (with_reducible first | exact HI.out | apply DkAt.alloc | apply DkAt.drewN | apply DkAt.drew) | exact HI.out), by repeat (first | (with_reducible first | exact HK.out | apply Kp.set_ | apply kp_drewN | apply kp_drew | apply kp_alloc) | exact HK.out)⟩
  · rw [if_neg c]
    have c0 : decide (0 < d.left) = false := decide_eq_false c
    clear c HI
    go_enter Try.func42, Try.ntmps42
    go_wp2
    first | go_end0 | ((try simp only [Exit.inBlock, Exit.then]); refine bodyPost_ret (results_none rfl _ _ _) rfl ?_)
    exact ⟨by first | rfl | (simp; done), by repeat (first | (with_reducible first | exact HJ.out | apply DkAt.alloc | apply DkAt.drewN | apply DkAt.drew) | exact HJ.out), by repeat (first | (with_reducible first | exact HK.out | apply Kp.set_ | apply kp_drewN | apply kp_drew | apply kp_alloc) | exact HK.out)⟩
set_option maxHeartbeats 8000000 in
set_option maxRecDepth 100000 in
theorem dk_All (w : World) (g : Nat) (own : Option Nat) (d : Dk) (h : DkAt w g own d) (hn : d.now.length < 8796093022208) :
    Calls Try.prog 19 #[.pointer (some ⟨g, 0, none⟩)] w fun e w' => ∃ v : Value, e = .returned v ∧ Kd.R Kd.string 9 w' w.heap.size (fun _ => True) v d.now ∧ DkAt w' g own d ∧ Kp w w' g none ∧ Below w.heap.size w w' := by
  have HI := Aside0.mk h
  have HK := Aside0.mk (Kp.refl w g none)
  have HN := Aside0.mk hn
  have HB := Aside0.mk (Below.refl w.heap.size w)
  obtain ⟨A3, c3, A4, c4, A5, c5, h0, h1, h2, -⟩ := h
  have hc4 := cellS67_4 h0
  have hf4 := blk_frozen h0 4
  have HC := Aside0.mk (Kd.V_reads' h2).2.2
  clear h0 h1 h2 hn
  go_enter Try.func19, Try.ntmps19
  go_wp2_with (first | ((with_reducible refine gate_builtin (b := .append) (xs := #[.const (.slice none 0 0), .tmp 6]) rfl ?_); at_builtin; refine Kd.R_append_rows Kd.string w.heap.size rfl (.const (.slice none 0 0)) (.tmp 6) 39 9 (.string ⟨#[]⟩) 16 rfl Try.underlying39 info9 rfl (by decide) (by omega) (.slice none 0 0) ([] : List ByteArray) d.now _ _ _ (fun _ => True) (fun _ => False) rfl rfl ?aO ?aR (fun _ _ h => h) (fun _ h => h.elim) ?aF (Below.refl _ _) ?aS ?aL ?_; (case aR => repeat (first | exact HC.out | (with_reducible refine Kd.C_alloc ?_ _) | (with_reducible refine Kd.C_drewN ?_ _) | (with_reducible refine Kd.C_drew ?_))); (case aF => exact (fun _ _ => trivial)); (case aO => exact ((Kd.R_nil _ _ _ _ (fun _ => True)))); (case aS => exact (keep_size (w := w) (g := g) (row := none) (Kp.keep (by repeat (first | (with_reducible first | exact HK.out | apply Kp.set_ | apply kp_drewN | apply kp_drew | apply kp_alloc) | exact HK.out))))); (case aL => have := HN.out; simp; omega); intro v w6 ho hb hg hat; have n0_ := Aside0.mk (DkAt.grown (by repeat (first | (with_reducible first | exact HI.out | apply DkAt.alloc | apply DkAt.drewN | apply DkAt.drew) | exact HI.out)) hg); have n1_ := Aside0.mk (Kp.trans (by repeat (first | (with_reducible first | exact HK.out | apply Kp.set_ | apply kp_drewN | apply kp_drew | apply kp_alloc) | exact HK.out)) (Kp.mk' (KeepBut.of_grown hg g) (Below.refl 0 _) hb) (.inl rfl)); have n2_ := Aside0.mk ho; have n3_ := Aside0.mk (below_step (by repeat (first | exact HB.out | apply pw_below_drewN | apply below_drew1)) hb); clear HI HK HB ho hb hg hat; have HB := n3_; have HI := n0_; have HK := n1_; have HO := n2_; clear n0_ n1_ n2_ n3_))
  go_ret
  rw [List.nil_append] at HO
  exact ⟨_, by first | rfl | (simp; done), by (with_reducible repeat (first | apply Kd.R_alloc | apply Kd.R_drewN | apply Kd.R_drew)); exact HO.out, by repeat (first | (with_reducible first | exact HI.out | apply DkAt.alloc | apply DkAt.drewN | apply DkAt.drew) | exact HI.out), by repeat (first | (with_reducible first | exact HK.out | apply Kp.set_ | apply kp_drewN | apply kp_drew | apply kp_alloc) | exact HK.out), by repeat (first | exact HB.out | apply pw_below_drewN | apply below_drew1)⟩
end Go.Proofs.Ytnmdpjbpbiempaa.P
