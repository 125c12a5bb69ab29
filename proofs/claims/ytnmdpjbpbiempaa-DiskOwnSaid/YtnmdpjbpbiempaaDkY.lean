/- What is proved here: the plain facts of the document's fixed calls, and that they answer as it says. Conditions: none. -/
import Derived.Test.YtnmdpjbpbiempaaDkX
set_option linter.unusedVariables false
namespace Go.Proofs.Ytnmdpjbpbiempaa.P
open Go.RowKit Go.Proofs.YtnmdpjbpbiempaaW.PrintWords Go.Proofs.YtnmdpjbpbiempaaW.PrintLast Go.Proofs.YtnmdpjbpbiempaaW.PrintMore
/-- The disk behind each fixed call. -/
def fxD0 (M : Nat → Prop) : Dk := fromD 128 3 ⟨#[]⟩ M
def fxD1 (M : Nat → Prop) : Dk := (fxD0 M).write 0 (pageB 97)
def fxD2 (M : Nat → Prop) : Dk := (fxD1 M).sync
def fxD3 (M : Nat → Prop) : Dk := (fxD2 M).write 0 (pageB 98)
def fxD4 (M : Nat → Prop) : Dk := (fxD3 M).write 2 (pageB 99)
def fxD5 (M : Nat → Prop) : Dk := (fxD4 M).write 3 (pageB 99)
def fxD6 (M : Nat → Prop) : Dk := (fxD5 M).write 0 ⟨#[120]⟩
def fxD7 (M : Nat → Prop) : Dk := (fxD6 M).readD
def fxD8 (M : Nat → Prop) : Dk := (fxD7 M).crash [⟨2, 3⟩]
def fxD9 (M : Nat → Prop) : Dk := (fxD8 M).readD
def fxD10 (M : Nat → Prop) : Dk := (fxD9 M).readD
def fxD11 (M : Nat → Prop) : Dk := (fxD10 M).limit 1
def fxD12 (M : Nat → Prop) : Dk := (fxD11 M).sync
def fxD13 (M : Nat → Prop) : Dk := (fxD12 M).write 0 (pageB 122)
def fxS (M : Nat → Prop) (i : Nat) : Dk := match i with
  | 0 => fxD0 M
  | 1 => fxD1 M
  | 2 => fxD2 M
  | 3 => fxD3 M
  | 4 => fxD4 M
  | 5 => fxD5 M
  | 6 => fxD6 M
  | 7 => fxD7 M
  | 8 => fxD8 M
  | 9 => fxD9 M
  | 10 => fxD10 M
  | 11 => fxD11 M
  | 12 => fxD12 M
  | 13 => fxD13 M
  | _ => fxD0 M
theorem fxf0 (M : Nat → Prop) : (fxS M 0).Few := ⟨of_decide_eq_true (by kernel_rfl), of_decide_eq_true (by kernel_rfl), of_decide_eq_true (by kernel_rfl), of_decide_eq_true (by kernel_rfl), of_decide_eq_true (by kernel_rfl), of_decide_eq_true (by kernel_rfl)⟩
theorem fxf1 (M : Nat → Prop) : (fxS M 1).Few := ⟨of_decide_eq_true (by kernel_rfl), of_decide_eq_true (by kernel_rfl), of_decide_eq_true (by kernel_rfl), of_decide_eq_true (by kernel_rfl), of_decide_eq_true (by kernel_rfl), of_decide_eq_true (by kernel_rfl)⟩
theorem fxf2 (M : Nat → Prop) : (fxS M 2).Few := ⟨of_decide_eq_true (by kernel_rfl), of_decide_eq_true (by kernel_rfl), of_decide_eq_true (by kernel_rfl), of_decide_eq_true (by kernel_rfl), of_decide_eq_true (by kernel_rfl), of_decide_eq_true (by kernel_rfl)⟩
theorem fxf3 (M : Nat → Prop) : (fxS M 3).Few := ⟨of_decide_eq_true (by kernel_rfl), of_decide_eq_true (by kernel_rfl), of_decide_eq_true (by kernel_rfl), of_decide_eq_true (by kernel_rfl), of_decide_eq_true (by kernel_rfl), of_decide_eq_true (by kernel_rfl)⟩
theorem fxf4 (M : Nat → Prop) : (fxS M 4).Few := ⟨of_decide_eq_true (by kernel_rfl), of_decide_eq_true (by kernel_rfl), of_decide_eq_true (by kernel_rfl), of_decide_eq_true (by kernel_rfl), of_decide_eq_true (by kernel_rfl), of_decide_eq_true (by kernel_rfl)⟩
theorem fxf5 (M : Nat → Prop) : (fxS M 5).Few := ⟨of_decide_eq_true (by kernel_rfl), of_decide_eq_true (by kernel_rfl), of_decide_eq_true (by kernel_rfl), of_decide_eq_true (by kernel_rfl), of_decide_eq_true (by kernel_rfl), of_decide_eq_true (by kernel_rfl)⟩
theorem fxf6 (M : Nat → Prop) : (fxS M 6).Few := ⟨of_decide_eq_true (by kernel_rfl), of_decide_eq_true (by kernel_rfl), of_decide_eq_true (by kernel_rfl), of_decide_eq_true (by kernel_rfl), of_decide_eq_true (by kernel_rfl), of_decide_eq_true (by kernel_rfl)⟩
theorem fxf7 (M : Nat → Prop) : (fxS M 7).Few := ⟨of_decide_eq_true (by kernel_rfl), of_decide_eq_true (by kernel_rfl), of_decide_eq_true (by kernel_rfl), of_decide_eq_true (by kernel_rfl), of_decide_eq_true (by kernel_rfl), of_decide_eq_true (by kernel_rfl)⟩
theorem fxf8 (M : Nat → Prop) : (fxS M 8).Few := ⟨of_decide_eq_true (by kernel_rfl), of_decide_eq_true (by kernel_rfl), of_decide_eq_true (by kernel_rfl), of_decide_eq_true (by kernel_rfl), of_decide_eq_true (by kernel_rfl), of_decide_eq_true (by kernel_rfl)⟩
theorem fxf9 (M : Nat → Prop) : (fxS M 9).Few := ⟨of_decide_eq_true (by kernel_rfl), of_decide_eq_true (by kernel_rfl), of_decide_eq_true (by kernel_rfl), of_decide_eq_true (by kernel_rfl), of_decide_eq_true (by kernel_rfl), of_decide_eq_true (by kernel_rfl)⟩
theorem fxf10 (M : Nat → Prop) : (fxS M 10).Few := ⟨of_decide_eq_true (by kernel_rfl), of_decide_eq_true (by kernel_rfl), of_decide_eq_true (by kernel_rfl), of_decide_eq_true (by kernel_rfl), of_decide_eq_true (by kernel_rfl), of_decide_eq_true (by kernel_rfl)⟩
theorem fxf11 (M : Nat → Prop) : (fxS M 11).Few := ⟨of_decide_eq_true (by kernel_rfl), of_decide_eq_true (by kernel_rfl), of_decide_eq_true (by kernel_rfl), of_decide_eq_true (by kernel_rfl), of_decide_eq_true (by kernel_rfl), of_decide_eq_true (by kernel_rfl)⟩
theorem fxf12 (M : Nat → Prop) : (fxS M 12).Few := ⟨of_decide_eq_true (by kernel_rfl), of_decide_eq_true (by kernel_rfl), of_decide_eq_true (by kernel_rfl), of_decide_eq_true (by kernel_rfl), of_decide_eq_true (by kernel_rfl), of_decide_eq_true (by kernel_rfl)⟩
theorem fxf13 (M : Nat → Prop) : (fxS M 13).Few := ⟨of_decide_eq_true (by kernel_rfl), of_decide_eq_true (by kernel_rfl), of_decide_eq_true (by kernel_rfl), of_decide_eq_true (by kernel_rfl), of_decide_eq_true (by kernel_rfl), of_decide_eq_true (by kernel_rfl)⟩
theorem fx_few (i : Nat) (M : Nat → Prop) : (fxS M i).Few := by
  match i with
  | 0 => exact fxf0 M
  | 1 => exact fxf1 M
  | 2 => exact fxf2 M
  | 3 => exact fxf3 M
  | 4 => exact fxf4 M
  | 5 => exact fxf5 M
  | 6 => exact fxf6 M
  | 7 => exact fxf7 M
  | 8 => exact fxf8 M
  | 9 => exact fxf9 M
  | 10 => exact fxf10 M
  | 11 => exact fxf11 M
  | 12 => exact fxf12 M
  | 13 => exact fxf13 M
  | n + 14 => exact fxf0 M
theorem fx_ok7 (M : Nat → Prop) : (fxS M 7).Ok := ⟨fxf7 M, of_decide_eq_true (by kernel_rfl), of_decide_eq_true (by kernel_rfl), of_decide_eq_true (by kernel_rfl), of_decide_eq_true (by kernel_rfl), of_decide_eq_true (by kernel_rfl), of_decide_eq_true (by kernel_rfl)⟩
def fxI (g1 : Nat) : Dk := fromD 128 2 pageX (fun k => k ≠ g1)
theorem fx : FX pageB pageX (⟨#[120]⟩ ++ (pageB 0).extract 1 128) (⟨#[98, 98, 98]⟩ ++ (pageB 97).extract 3 128) ((pageB 0).extract 1 128) ((pageB 97).extract 3 128) (fun i M => fxS M i) fxI where
  PX := page_calls
  N3 := new3
  F1 := from1
  F2 := from2
  ps := pageB_size
  hpx := rfl
  M := fun _ _ => rfl
  few := fx_few
  W1 := fun _ => rfl
  W2 := fun _ => rfl
  W3 := fun _ => rfl
  W4 := fun _ => rfl
  W5 := fun _ => rfl
  W6 := fun _ => rfl
  W7 := fun _ => rfl
  W8 := fun _ => rfl
  W9 := fun _ => rfl
  W10 := fun _ => rfl
  W11 := fun _ => rfl
  W12 := fun _ => rfl
  W13 := fun _ => rfl
  E1 := fun M => by kernel_rfl
  E2 := fun M => by kernel_rfl
  E3 := fun M => by kernel_rfl
  E4 := fun M => by kernel_rfl
  E5 := fun M => by kernel_rfl
  E6 := fun M => by kernel_rfl
  E7 := fun M => by kernel_rfl
  L7 := fun M => by kernel_rfl
  ok7 := fx_ok7
  E8 := fun M => by kernel_rfl
  E9 := fun M => by kernel_rfl
  E11 := fun M => by kernel_rfl
  E12 := fun M => by kernel_rfl
  L13 := fun M => by kernel_rfl
  R13 := fun M => by kernel_rfl
  P13 := fun M => by kernel_rfl
  O13 := fun M => by kernel_rfl
  hy0 := rfl
  y0s := by kernel_rfl
  hy97 := rfl
  y97s := by kernel_rfl
  hbt := rfl
  htx := rfl
  DM := fun _ _ h => h
  DN := fun g1 => by kernel_rfl
  DL := fun g1 => by kernel_rfl
theorem fixed_true (w : World) : Calls Try.prog 13 #[] w fun e w' => e = .returned (.bool true) ∧ Below w.heap.size w w' := fixed_walk w _ _ _ _ _ _ _ _ fx
end Go.Proofs.Ytnmdpjbpbiempaa.P
