/- What is proved here: the statement SepThreeSaid: at every input the law returns true, and the input reads behind the call as it did before. Conditions: none beyond the statement's own. -/
import Derived.Test.YthflaiogollleaaRows
import Derived.Test.YthflaiogollleaaP12
import Derived.Test.YthflaiogollleaaFits
import Derived.Test.YthflaiogollleaaPureSepThree
import Derived.WalkKit
import Derived.ProofKit
import Derived.OpenShut
import Derived.ShutString
import Derived.ChangeOld
import Derived.Below
import Derived.Carry
import Derived.SizedLaws
namespace Go.Proofs.Ythflaiogollleaa.sepThree
open Go.ChangeShapes Go.WideShapes Go.ChangeAt Go.RowKit
open Go.ChangeMaps (open_string shut_string)
open Go.Proofs.YthflaiogollleaaOpen Go.Proofs.YthflaiogollleaaW.PrintWords Go.Proofs.Ythflaiogollleaa.P
theorem own : ownKnob Try.prog.godebug = none := by kernel_rfl
theorem laidOut : laidOutB Try.prog = true := by kernel_rfl
set_option maxRecDepth 100000 in
theorem lifted (os : Os) (started : os.Started) (H : Type) (enc : TypeId × Value → H) :
    ReturnsInHanded {} Try.checked os 8 .any (Rows.sepThreeSpec.pre6 enc Try.prog Try.f8 Rows.sepThreeRow.domain false) (Rows.sepThreeSpec.post enc Try.prog Try.f8 false true false false) := by
  refine returnsInHanded_of_change_sized (C := Try.checked) own started (by kernel_rfl) Try.func8
    (ChangeSpec.witness6 (enc := enc) (C := Try.checked) false ⟨#[], #[.agg #[.string ByteArray.empty, .string ByteArray.empty, .string ByteArray.empty]], []⟩ 8 (by kernel_rfl) (by kernel_rfl) (by kernel_rfl) (by kernel_rfl)) ?_
  intro W base args ds gs before hval0 hW hcnd hsz0 _
  have hsz : (DataW.weightsEach Try.prog (Try.f8.params.toList ++ Rows.sepThreeSpec.plain.varTypes Try.prog) (ds ++ gs)).all (· ≤ reachBytes) = true := hsz0
  have hval : ∀ (j : Nat) t v, Try.f8.params[j]? = some t → args[j]? = some v → Value.okWide Try.prog W .any base t v := hval0
  have hW' := hW
  obtain ⟨p, q, hA0, hV, rfl, hfz, hnd⟩ := hW
  have hA : DataW.TrodAll enc Try.prog W 0 (fun _ => true) true Try.f8.params.toList args.toList ds p := hA0
  rw [Try.params8] at hA hval hsz
  obtain ⟨v0, vs0, d0, ds0, p0, q0, hargs, rfl, rfl, h0, r0⟩ := trodAll_cons hA
  obtain ⟨rfl, rfl, rfl⟩ := trodAll_nil r0
  obtain rfl : args = #[v0] := by cases args; simp_all
  obtain ⟨rfl, rfl⟩ := trodVars_none hV
  have k0 := h0
  have lt0 : ∀ x ∈ p0, x.block < W.heap.size := by obtain ⟨m, hm⟩ := k0; exact DataW.trod_lt m _ _ _ hm
  obtain ⟨fuel0, hf0⟩ := h0
  obtain ⟨x0, hk0, ft0⟩ := opens39.op hf0 (sized_at hsz (j := 0) (t := 39) rfl rfl)
  obtain ⟨cs0, rfl, _⟩ := okWide_arr Try.underlying39 (hval 0 39 v0 rfl rfl)
  have e0 := k39_open hk0
  obtain rfl : cs0 = #[.string x0.f0, .string x0.f1, .string x0.f2] := Array.ext' e0
  clear hA0 hval0 hsz0 hsz
  obtain ⟨k, hP⟩ := Pure.SepThree x0 ft0
  refine (withylaw05_SepThree.calls k x0.f0 x0.f1 x0.f2 true W  hP).mono fun e W' ⟨he, bel0⟩ => ?_
  have bel : Below W.heap.size W W' := bel0
  subst he
  exact ⟨_, rfl, _, _, _, [], _, [], hW', trodAll_mk1 (shut_bool Try.underlying4 _), (trodAll_cons_mk (Below.trod laidOut (by kernel_rfl) (of_decide_eq_true (by kernel_rfl)) k0 bel lt0) trodAll_mk0), rfl, bel.frame _, fun h => by cases h⟩
theorem over : Rows.sepThreeRow.holds Try.pinned (OpenSpec.ofChange Rows.sepThreeSpec) :=
  OpenClaim.holds_of_wide 8 Try.f8 rfl rfl rfl rfl rfl rfl rfl ⟨rfl, rfl, rfl, rfl, rfl⟩ rfl rfl rfl rfl rfl (by kernel_rfl) Try.func8 (by kernel_rfl)
    (of_decide_eq_true (by kernel_rfl)) (by unfold Func.isWrapper; first | (rw [if_pos (by decide +kernel)]; kernel_rfl) | (rw [if_neg (by decide +kernel)]; exact ⟨rfl, rfl⟩))
    (fun os started H enc _ => lifted os started H enc)
theorem proved : Rows.SepThreeSaid := over
end Go.Proofs.Ythflaiogollleaa.sepThree
namespace Go.Proofs.Ythflaiogollleaa
/-- The row, under a short name, for the claim. -/
theorem sepThree_holds : Rows.SepThreeSaid := sepThree.proved
#print axioms sepThree_holds
end Go.Proofs.Ythflaiogollleaa
