/- What is proved here: for functions of the Go text, a Lean function each, and that the call comes to just what it answers. Conditions: as each contract names them. Written by wip/tools/myprint.py, a driver of the print of the kit. -/
import Derived.Test.YtnmdpjbpbiempaaProg
import Derived.WalkMore
import Derived.Below
import Derived.Deep.Draws
import Derived.Deep.AppendLies
import Derived.Maps.AppendAt
import Derived.OwnWalk
import Derived.Laws.BytesArg
import Derived.Laws.MakeOwn
import Derived.Laws.OwnMore
import Derived.Deep.OwnRows
import Derived.Tactics
import Derived.Lib.ConvBytes
import Derived.Laws.Slices
import Derived.WalkKit
import Derived.KernelRfl
import Derived.RowKit3
import Derived.Deep.LoopGhost
import Derived.Deep.QuietTactic
import Derived.BigQuiet
import Derived.WideLaws
import Derived.Deep.DeepCutAuto
import Derived.Deep.CutBlock
import Derived.Deep.RegionHeld3
import Derived.Laws.Rows
import Derived.Lib.AppendStr
import Derived.ArgAppend
import Derived.Laws.IdiomCopy
import Derived.OrdersHeld
import Derived.Laws.BitsLemmas
import Derived.RowKit
import Derived.Test.YtnmdpjbpbiempaaLaws
import Derived.Test.YtnmdpjbpbiempaaShelf
import Derived.Test.YtnmdpjbpbiempaaWWords
import Derived.Test.YtnmdpjbpbiempaaWLast
import Derived.Test.YtnmdpjbpbiempaaWTab
import Derived.Test.YtnmdpjbpbiempaaWFour
import Derived.Test.YtnmdpjbpbiempaaWQPut
import Derived.Test.YtnmdpjbpbiempaaWApart
import Derived.Test.YtnmdpjbpbiempaaWArr
import Derived.Test.YtnmdpjbpbiempaaWZeros
import Derived.Test.YtnmdpjbpbiempaaWFoot
import Derived.Test.YtnmdpjbpbiempaaWKept
import Derived.Test.YtnmdpjbpbiempaaWShare
import Derived.Test.YtnmdpjbpbiempaaWN
import Derived.Test.YtnmdpjbpbiempaaWFootNe
import Derived.Test.YtnmdpjbpbiempaaWAt
import Derived.Test.YtnmdpjbpbiempaaWEqStruct
import Derived.Test.YtnmdpjbpbiempaaWRepsOne
import Derived.Test.YtnmdpjbpbiempaaWInv
import Derived.Test.YtnmdpjbpbiempaaWInvWords
import Derived.Test.YtnmdpjbpbiempaaWGuard
import Derived.Test.YtnmdpjbpbiempaaWNEv
import Derived.Test.YtnmdpjbpbiempaaWMore
namespace Go.Proofs.Ytnmdpjbpbiempaa.P
open Go.RowKit Go.Proofs.YtnmdpjbpbiempaaW.PrintWords Go.Proofs.YtnmdpjbpbiempaaW.PrintLast Go.Proofs.YtnmdpjbpbiempaaW.PrintMore
attribute [local go_sem] max2_int min2_int max_two min_two max_three min_three max_four min_four Go.Proofs.YtnmdpjbpbiempaaLaws.str_leq Go.Proofs.YtnmdpjbpbiempaaLaws.str_gtr Go.Proofs.YtnmdpjbpbiempaaLaws.str_geq Go.Proofs.YtnmdpjbpbiempaaLaws.max2_str Go.Proofs.YtnmdpjbpbiempaaLaws.min2_str   -- for this text's walks alone
set_option linter.unusedVariables false
set_option linter.unusedSimpArgs false



def errW : Option Int → Value
  | none => .nilIface
  | some c => .iface 0 (.int .i64 c)
theorem errW_none : errW none = .nilIface := rfl
theorem errW_some (c : Int) : errW (some c) = .iface 0 (.int .i64 c) := rfl

theorem info5 : (Try.prog.info? 5).map (fun i => (i.zero, i.size, i.bytes)) = some (some (.int .u8 0), 1, 1) := by kernel_rfl
theorem info9 : (Try.prog.info? 9).map (fun i => (i.zero, i.size, i.bytes)) = some (some (.string ⟨#[]⟩), 1, 16) := by kernel_rfl
-- the values' own types
/-! #### struct type 79 -/
structure S79 where
  f0 : Int
  f1 : ByteArray
def z79 : S79 := ⟨(0 : Int), (⟨#[]⟩ : ByteArray)⟩
def k79 : Kd S79 := Kd.iso (Kd.pair (Kd.int .i64) Kd.string) (fun x : S79 => (x.f0, x.f1))
theorem k79_open {w : World} {x : S79} {cs : List Value} (h : k79.K w x cs) : cs = [.int .i64 x.f0, .string x.f1] := by
  obtain ⟨_, _, rfl, rfl, rfl⟩ := h
  exact rfl
theorem k79_openM {w : World} {base : Nat} {ok : Nat → Prop} {x : S79} {cs : List Value} (h : k79.M w base ok x cs) : cs = [.int .i64 x.f0, .string x.f1] := by
  obtain ⟨_, _, rfl, rfl, rfl⟩ := h
  exact rfl
theorem k79_mk (w : World) (x : S79)  : k79.K w x [.int .i64 x.f0, .string x.f1] := ⟨[.int .i64 x.f0], [.string x.f1], rfl, rfl, rfl⟩
theorem k79_mkM (w : World) (base : Nat) (ok : Nat → Prop) (x : S79)  : k79.M w base ok x [.int .i64 x.f0, .string x.f1] := ⟨[.int .i64 x.f0], [.string x.f1], rfl, rfl, rfl⟩
def rd_T79 (xs : List S79) (i : Int) : S79 := xs.getD i.toNat z79
theorem at_T79 {w : World} {A : Option Addr} {n : Nat} {xs : List S79} (h : Kd.C k79 w A n xs) (i : Int) (h0 : 0 ≤ i) (h1 : i < n) : ∃ ad , A = some ad ∧ w.cell? (ad.add (i.toNat * 2)) = some (.int .i64 (rd_T79 xs i).f0) ∧ w.cell? ⟨(ad.add (i.toNat * 2)).block, (ad.add (i.toNat * 2)).off + 1, none⟩ = some (.string (rd_T79 xs i).f1) := by
  obtain ⟨ad, c, e, _, hK, hc0⟩ := Kd.C_get h z79 i h0 h1
  have hc : ∀ j u, c[j]? = some u → w.cell? (ad.add (i.toNat * 2 + j)) = some u := hc0
  obtain rfl := k79_open hK
  exact ⟨ad, e, hc 0 _ rfl, by rw [← add_field _ _ 1 (by omega)]; exact hc 1 _ rfl⟩

end Go.Proofs.Ytnmdpjbpbiempaa.P
