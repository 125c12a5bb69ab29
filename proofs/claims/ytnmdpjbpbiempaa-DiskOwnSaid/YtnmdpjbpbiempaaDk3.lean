/- What is proved here: what syncing a disk does. Conditions: none. -/
import Derived.Test.YtnmdpjbpbiempaaDk2
import Derived.Test.YtnmdpjbpbiempaaDkPut
set_option linter.unusedVariables false
set_option linter.unusedSimpArgs false
namespace Go.Proofs.Ytnmdpjbpbiempaa.P
open Go.RowKit Go.Proofs.YtnmdpjbpbiempaaW.PrintWords Go.Proofs.YtnmdpjbpbiempaaW.PrintLast Go.Proofs.YtnmdpjbpbiempaaW.PrintMore
/-- A disk stays through what turns no block but its own one, which is as it was. -/
theorem DkAt.keep {W W' : World} {g : Nat} {own : Option Nat} {d : Dk} (h : DkAt W g own d) (hk : KeepBut W W' g none) (hg : W'.heap[g]? = W.heap[g]?) : DkAt W' g own d := by
  obtain ⟨A3, c3, A4, c4, A5, c5, h0, h1, h2, h3, h4, h5⟩ := h
  exact ⟨A3, c3, A4, c4, A5, c5, hg.trans h0, Kd.V_step h1 (fun k ho hk' => hk.2 k hk' ho.1 (by simp)), Kd.V_step h2 (fun k ho hk' => hk.2 k hk' ho.1 (by simp)), Kd.R_step h3 (fun k ho hk' => hk.2 k hk' ho.1 (by simp)), h4, fun k hk' => h5 k (Nat.le_trans hk.1 hk')⟩
theorem DkAt.sync {W : World} {g : Nat} {own : Option Nat} {d : Dk} (h : DkAt W g own d) : ∃ (A4 : Option Addr) (c4 : Nat), W.cell? ⟨g, 4, none⟩ = some (.slice A4 d.now.length c4) ∧ (∀ i, W.frozen? ⟨g, i, none⟩ = false) ∧ (∀ i, i < 7 → ∃ v, W.cell? ⟨g, i, none⟩ = some v) ∧
    DkAt ((W.setCell ⟨g, 3, none⟩ (.slice A4 d.now.length c4)).setCell ⟨g, 5, none⟩ (.slice none 0 0)) g none { d with kept := d.now, pend := [] } := by
  obtain ⟨A3, c3, A4, c4, A5, c5, h0, h1, h2, h3, h4, h5⟩ := h
  have hV := Kd.V_mono (ok' := fun k => k ≠ g ∧ some k ≠ none ∧ d.M k) (Kd.V_far (p := ⟨g, 5, none⟩) (Kd.V_far (p := ⟨g, 3, none⟩) h2 (fun _ hk => hk.1) (.slice A4 d.now.length c4)) (fun _ hk => hk.1) (.slice none 0 0)) (fun k hk => ⟨hk.1, by simp, hk.2.2⟩)
  refine ⟨A4, c4, cellS67_4 h0, fun i => blk_frozen h0 i, fun i hi => ?_, A4, c4, A4, c4, none, 0, blk_put (blk_put h0 3 _ rfl) 5 _ rfl, hV, hV, Kd.R_nil _ _ _ _ _, rfl, fun k hk => h5 k (by simpa using hk)⟩
  match i, hi with
  | 0, _ => exact ⟨_, cellS67_0 h0⟩
  | 1, _ => exact ⟨_, cellS67_1 h0⟩
  | 2, _ => exact ⟨_, cellS67_2 h0⟩
  | 3, _ => exact ⟨_, cellS67_3 h0⟩
  | 4, _ => exact ⟨_, cellS67_4 h0⟩
  | 5, _ => exact ⟨_, cellS67_5 h0⟩
  | 6, _ => exact ⟨_, cellS67_6 h0⟩
/-- What a counted call leaves. -/
def Dk.done (d : Dk) : Dk := { d with left := if d.left > 0 then wrap64 (d.left - 1) else d.left }
def Dk.sync (d : Dk) : Dk := if d.left = 0 then d else ({ d with kept := d.now, pend := [] } : Dk).done
set_option maxHeartbeats 8000000 in
set_option maxRecDepth 100000 in
theorem dk_Sync (w : World) (g : Nat) (own : Option Nat) (d : Dk) (h : DkAt w g own d) :
    Calls Try.prog 26 #[.pointer (some ⟨g, 0, none⟩)] w fun e w' => e = .returned (.int .i64 (if d.left = 0 then 9 else 0)) ∧ (∃ own', (own' = own ∨ own' = none) ∧ DkAt w' g own' d.sync) ∧ Kp w w' g none := by
  have HI := Aside0.mk h
  have HK := Aside0.mk (Kp.refl w g none)
  clear h
  unfold Dk.sync
  by_cases c : d.left = 0
  · rw [if_pos c, if_pos c]
    have c0 : (d.left != 0) = false := bne_eq_false_iff_eq.mpr c
    go_enter Try.func26, Try.ntmps26
    go_wp2_with (first | (go_at_call 40; refine (dk_ask _ g own d (by repeat (first | exact HI.out | apply DkAt.alloc | apply DkAt.drewN | apply DkAt.drew))).mono ?_; rw [c0]; rintro e w1 ⟨rfl, h1, k1, -⟩; have n1_ := Aside0.mk (Kp.trans (by repeat (first | exact HK.out | apply kp_drewN | apply kp_drew | apply kp_alloc)) k1 (.inl rfl)); clear HI HK k1; have HI := Aside0.mk h1; have HK := n1_; clear h1 n1_))
    go_ret
    exact ⟨by first | rfl | (simp; done), ⟨own, .inl rfl, by repeat (first | exact HI.out | apply DkAt.alloc | apply DkAt.drewN | apply DkAt.drew)⟩, by repeat (first | exact HK.out | apply kp_drewN | apply kp_drew | apply kp_alloc)⟩
  · rw [if_neg c, if_neg c]
    have c0 : (d.left != 0) = true := bne_iff_ne.mpr c
    clear c
    go_enter Try.func26, Try.ntmps26
    go_wp2_with (first | (go_at_call 40; refine (dk_ask _ g own d (by repeat (first | exact HI.out | apply DkAt.alloc | apply DkAt.drewN | apply DkAt.drew))).mono ?_; rw [c0]; rintro e w1 ⟨rfl, h1, k1, -⟩; have n1_ := Aside0.mk (Kp.trans (by repeat (first | exact HK.out | apply kp_drewN | apply kp_drew | apply kp_alloc)) k1 (.inl rfl)); clear HI HK k1; obtain ⟨A4, c4, e4, ef, ec, hs⟩ := h1.sync; obtain ⟨v3, e3⟩ := ec 3 (by omega); obtain ⟨v5, e5⟩ := ec 5 (by omega); have f3 := ef 3; have f4 := ef 4; have f5 := ef 5; clear ec ef h1; have HI := Aside0.mk hs; have HK := n1_; clear hs n1_) | (go_at_call 42; refine (dk_done _ g none { d with kept := d.now, pend := [] } (by repeat (first | exact HI.out | apply DkAt.alloc | apply DkAt.drewN | apply DkAt.drew))).mono ?_; rintro e w2 ⟨rfl, h1, k1⟩; have n1_ := Aside0.mk (Kp.trans (by repeat (first | exact HK.out | apply Kp.set_ | apply kp_drewN | apply kp_drew | apply kp_alloc)) k1 (.inl rfl)); clear HI HK k1; have HI := Aside0.mk h1; have HK := n1_; clear h1 n1_))
    go_ret
    exact ⟨by first | rfl | (simp; done), ⟨none, .inr rfl, by repeat (first | exact HI.out | apply DkAt.alloc | apply DkAt.drewN | apply DkAt.drew)⟩, by repeat (first | exact HK.out | apply kp_drewN | apply kp_drew | apply kp_alloc)⟩
end Go.Proofs.Ytnmdpjbpbiempaa.P
