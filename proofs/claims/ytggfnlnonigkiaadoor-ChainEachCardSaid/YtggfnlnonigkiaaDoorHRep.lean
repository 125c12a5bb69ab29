/- What is proved here: what Repeat answers, in the reference. Conditions: sizes within the form's reach. -/
import Derived.Test.YtggfnlnonigkiaaDoorHSeal
set_option linter.unusedVariables false
set_option linter.unusedSimpArgs false
namespace Go.Proofs.YtggfnlnonigkiaaDoor.HSpec
open Go.RowKit Go.Proofs.YtggfnlnonigkiaaDoorW.PrintWords Go.Proofs.YtggfnlnonigkiaaDoorW.PrintLast Go.Proofs.YtggfnlnonigkiaaDoorW.PrintMore Go.Proofs.YtggfnlnonigkiaaDoorEv Go.Proofs.YtggfnlnonigkiaaDoorSum Go.Proofs.YtggfnlnonigkiaaDoorHead Go.Proofs.YtggfnlnonigkiaaDoor.P
def repB (b n : Nat) : ByteArray := ⟨(List.replicate n (UInt8.ofNat b)).toArray⟩
theorem repB_zero (n : Nat) : repB 0 n = zerosB n := rfl
theorem repB_L (b n : Nat) : L (repB b n) = List.replicate n (UInt8.ofNat b) := L_mk _
theorem repB_size (b n : Nat) : (repB b n).size = n := by unfold repB; rw [size_mk, List.length_replicate]
theorem rrepeat_loop (b n : Nat) (h : n ≤ 140737488300000) : ∀ (d i : Nat), i ≤ n → n - i = d → Ev (fun k => withyref01_Repeat.l0 k (b : Int) (n : Int) (List.replicate i (b : Int)) (i : Int)) (repB b n) := by
  intro d
  induction d with
  | zero =>
    intro i h1 hd
    obtain rfl : i = n := by omega
    refine ev_step ?_
    simp only [withyref01_Repeat.l0]
    refine ev_neg (by omega) (ev_some' (L_inj ?_))
    rw [repB_L]
    show (strOfNums _).data.toList = _
    rw [strOfNums_data, List.map_replicate]
    rfl
  | succ d ih =>
    intro i h1 hd
    refine ev_step ?_
    simp only [withyref01_Repeat.l0]
    refine ev_pos (by omega) (ev_pos (by simp; omega) ?_)
    rw [w64_succ (by omega), ← List.replicate_succ']
    exact ih (i + 1) (by omega) (by omega)
theorem rrepeat_ev (b n : Nat) (h : n ≤ 140737488300000) : Ev (fun k => withyref01_Repeat.f k (b : Int) (n : Int)) (repB b n) := by
  unfold withyref01_Repeat.f
  exact rrepeat_loop b n h n 0 (Nat.zero_le _) rfl
end Go.Proofs.YtggfnlnonigkiaaDoor.HSpec
