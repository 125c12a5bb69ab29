/-
  No cell of these rows narrows 'for every input' (looked for: loops, veiled, ifaces, maps, wideKeys, modest, calm, conditions, laid).
  DERIVED. THE GIVEN ROWS OF THIS SEAT. 6 by the template 'for every input the law returns true; each argument reads behind the call as it read before'; 0 by the template 'total and deterministic' (their statements: YtnkndnpnjbcaoaaTotals.lean).
  GIVEN WITH THE SEED: the statements are not yours to turn. If you find one false, say at which input.
  Laid BY PROGRAM, IN A SANDBOX (cutbox-rows.mjs): the forced cells as the released guide's own fill.sh prints them over the translation ffb5bbae79ebd7c4… (all of the seat's roots in one cut). By AI agents, Wed Nov 11 2026. No macro, syntax, notation, axiom, sorry.
-/
import Derived.Test.YtnkndnpnjbcaoaaChecked
import GoSem.Claim
import GoSem.ClaimJoined
import GoSem.ClaimMapViews
import Derived.JoinedTies
import Derived.KernelRfl
namespace Go.Proofs.Ytnkndnpnjbcaoaa
/- THE CELL 'sum', in the pinned program and in every row, IS THE sha256 OF THE DUMP (.gsa) THAT YtnkndnpnjbcaoaaProg.lean LOADS. Nothing in Lean hashes anything: it is a label: what it is worth is what the hold of that sum in a sandbox is worth. -/
noncomputable def Try.pinned : Pinned := { name := "ytnkndnpnjbcaoaa", sum := "ffb5bbae79ebd7c4368b88d625f4872f3b9d003a681e1426920dafe1d132b51b", checked := Try.checked }
namespace Rows
def none {H : Type} : Left H := { results := [], args := [] }

/-- 'withylaw13.MetaTells': WHATEVER THE INPUT: true; the input reads as it did. -/
def metaTellsSpec : ChangeSpec := { name := "metaTells", fn := fun _ => fun
  | [d1, d2, d3] => { results := [.lit (.bool true)], args := [d1, d2, d3] }
  | _ => none }
def metaTellsRow : OpenClaim := { program := "ytnkndnpnjbcaoaa", sum := "ffb5bbae79ebd7c4368b88d625f4872f3b9d003a681e1426920dafe1d132b51b", func := "withy/withylaw13.MetaTells", spec := "metaTells", inPlace := ["internal/abi.NoEscape", "internal/bytealg.MakeNoZero", "internal/reflectlite.TypeOf"], unfollowed := true, recurses := true, apart := false }
def MetaTellsSaid : Prop := metaTellsRow.holds Try.pinned (OpenSpec.ofChange metaTellsSpec)

/-- ITS FALSE NEIGHBOUR: 'it returns false'. Refute it at one input. -/
def metaTellsWrong : ChangeSpec := { name := "metaTells", fn := fun _ => fun
  | [d1, d2, d3] => { results := [.lit (.bool false)], args := [d1, d2, d3] }
  | _ => none }
def MetaTellsWrongFalsely : Prop := metaTellsRow.holds Try.pinned (OpenSpec.ofChange metaTellsWrong)

/-- 'withylaw13.MetaBack': WHATEVER THE INPUT: true; the input reads as it did. -/
def metaBackSpec : ChangeSpec := { name := "metaBack", fn := fun _ => fun
  | [d1, d2, d3] => { results := [.lit (.bool true)], args := [d1, d2, d3] }
  | _ => none }
def metaBackRow : OpenClaim := { program := "ytnkndnpnjbcaoaa", sum := "ffb5bbae79ebd7c4368b88d625f4872f3b9d003a681e1426920dafe1d132b51b", func := "withy/withylaw13.MetaBack", spec := "metaBack", inPlace := ["internal/abi.NoEscape", "internal/bytealg.MakeNoZero", "internal/reflectlite.TypeOf"], unfollowed := true, recurses := true, apart := false }
def MetaBackSaid : Prop := metaBackRow.holds Try.pinned (OpenSpec.ofChange metaBackSpec)

/-- ITS FALSE NEIGHBOUR: 'it returns false'. Refute it at one input. -/
def metaBackWrong : ChangeSpec := { name := "metaBack", fn := fun _ => fun
  | [d1, d2, d3] => { results := [.lit (.bool false)], args := [d1, d2, d3] }
  | _ => none }
def MetaBackWrongFalsely : Prop := metaBackRow.holds Try.pinned (OpenSpec.ofChange metaBackWrong)

/-- 'withylaw13.MetaTorn': WHATEVER THE INPUT: true; the input reads as it did. -/
def metaTornSpec : ChangeSpec := { name := "metaTorn", fn := fun _ => fun
  | [d1, d2, d3] => { results := [.lit (.bool true)], args := [d1, d2, d3] }
  | _ => none }
def metaTornRow : OpenClaim := { program := "ytnkndnpnjbcaoaa", sum := "ffb5bbae79ebd7c4368b88d625f4872f3b9d003a681e1426920dafe1d132b51b", func := "withy/withylaw13.MetaTorn", spec := "metaTorn", inPlace := ["internal/abi.NoEscape", "internal/bytealg.MakeNoZero", "internal/reflectlite.TypeOf"], unfollowed := true, recurses := true, apart := false }
def MetaTornSaid : Prop := metaTornRow.holds Try.pinned (OpenSpec.ofChange metaTornSpec)

/-- ITS FALSE NEIGHBOUR: 'it returns false'. Refute it at one input. -/
def metaTornWrong : ChangeSpec := { name := "metaTorn", fn := fun _ => fun
  | [d1, d2, d3] => { results := [.lit (.bool false)], args := [d1, d2, d3] }
  | _ => none }
def MetaTornWrongFalsely : Prop := metaTornRow.holds Try.pinned (OpenSpec.ofChange metaTornWrong)

/-- 'withylaw13.MetaFields': WHATEVER THE INPUT: true; the input reads as it did. -/
def metaFieldsSpec : ChangeSpec := { name := "metaFields", fn := fun _ => fun
  | [d] => { results := [.lit (.bool true)], args := [d] }
  | _ => none }
def metaFieldsRow : OpenClaim := { program := "ytnkndnpnjbcaoaa", sum := "ffb5bbae79ebd7c4368b88d625f4872f3b9d003a681e1426920dafe1d132b51b", func := "withy/withylaw13.MetaFields", spec := "metaFields", inPlace := ["internal/abi.NoEscape", "internal/bytealg.MakeNoZero", "internal/reflectlite.TypeOf"], unfollowed := true, recurses := true, apart := false }
def MetaFieldsSaid : Prop := metaFieldsRow.holds Try.pinned (OpenSpec.ofChange metaFieldsSpec)

/-- ITS FALSE NEIGHBOUR: 'it returns false'. Refute it at one input. -/
def metaFieldsWrong : ChangeSpec := { name := "metaFields", fn := fun _ => fun
  | [d] => { results := [.lit (.bool false)], args := [d] }
  | _ => none }
def MetaFieldsWrongFalsely : Prop := metaFieldsRow.holds Try.pinned (OpenSpec.ofChange metaFieldsWrong)

/-- 'withylaw13.MetaTears': WHATEVER THE INPUT: true; the input reads as it did. -/
def metaTearsSpec : ChangeSpec := { name := "metaTears", fn := fun _ => fun
  | [d1, d2, d3] => { results := [.lit (.bool true)], args := [d1, d2, d3] }
  | _ => none }
def metaTearsRow : OpenClaim := { program := "ytnkndnpnjbcaoaa", sum := "ffb5bbae79ebd7c4368b88d625f4872f3b9d003a681e1426920dafe1d132b51b", func := "withy/withylaw13.MetaTears", spec := "metaTears", inPlace := ["internal/abi.NoEscape", "internal/bytealg.MakeNoZero", "internal/reflectlite.TypeOf"], unfollowed := true, recurses := true, apart := false }
def MetaTearsSaid : Prop := metaTearsRow.holds Try.pinned (OpenSpec.ofChange metaTearsSpec)

/-- ITS FALSE NEIGHBOUR: 'it returns false'. Refute it at one input. -/
def metaTearsWrong : ChangeSpec := { name := "metaTears", fn := fun _ => fun
  | [d1, d2, d3] => { results := [.lit (.bool false)], args := [d1, d2, d3] }
  | _ => none }
def MetaTearsWrongFalsely : Prop := metaTearsRow.holds Try.pinned (OpenSpec.ofChange metaTearsWrong)

/-- 'withylaw13.MetaEach': WHATEVER THE INPUT: true; the input reads as it did. -/
def metaEachSpec : ChangeSpec := { name := "metaEach", fn := fun _ => fun
  | [d1, d2] => { results := [.lit (.bool true)], args := [d1, d2] }
  | _ => none }
def metaEachRow : OpenClaim := { program := "ytnkndnpnjbcaoaa", sum := "ffb5bbae79ebd7c4368b88d625f4872f3b9d003a681e1426920dafe1d132b51b", func := "withy/withylaw13.MetaEach", spec := "metaEach", inPlace := ["internal/abi.NoEscape", "internal/bytealg.MakeNoZero", "internal/reflectlite.TypeOf"], unfollowed := true, recurses := true, apart := false }
def MetaEachSaid : Prop := metaEachRow.holds Try.pinned (OpenSpec.ofChange metaEachSpec)

/-- ITS FALSE NEIGHBOUR: 'it returns false'. Refute it at one input. -/
def metaEachWrong : ChangeSpec := { name := "metaEach", fn := fun _ => fun
  | [d1, d2] => { results := [.lit (.bool false)], args := [d1, d2] }
  | _ => none }
def MetaEachWrongFalsely : Prop := metaEachRow.holds Try.pinned (OpenSpec.ofChange metaEachWrong)

/- THE SECOND FORM. 'bulk': how many values and letters a reading holds, each counted each time it is reached (what is shared counts as often as it is met; a slice's spare places count too). A statement '..UptoSaid' is the law's where the arguments, and the package variables that the reading takes, are together of bulk at most 1048576: NARROWER than '..Said'. Prove '..Said' where nothing that the law and all that it calls make is longer than what came in: it says more and counts as full. Else prove '..UptoSaid'. A law counts once. -/
mutual
def uptoBulk {H : Type} : DataW H → Nat
  | .lit (.string bytes) => bytes.length + 1
  | .lit _ => 1
  | .nil => 1
  | .ptr d => uptoBulk d + 1
  | .slice elems spare => uptoBulkAll elems + uptoBulkAll spare + 1
  | .agg parts => uptoBulkAll parts + 1
  | .iface _ d => uptoBulk d + 1
  | .map entries => uptoBulkEntries entries + 1
  | .held _ => 1
def uptoBulkAll {H : Type} : List (DataW H) → Nat
  | [] => 0
  | d :: r => uptoBulk d + uptoBulkAll r
def uptoBulkEntries {H : Type} : List (Lit × DataW H) → Nat
  | [] => 0
  | x :: r => uptoBulkEntry x + uptoBulkEntries r
def uptoBulkEntry {H : Type} : Lit × DataW H → Nat
  | (.string bytes, d) => bytes.length + uptoBulk d + 1
  | (_, d) => uptoBulk d + 1
 end
def uptoSmall : (H : Type) → List (DataW H) → Bool := fun _ ds => decide (uptoBulkAll ds ≤ 1048576)
def OpenSpec.upto (s : _root_.Go.ChangeSpec) : _root_.Go.OpenSpec := { _root_.Go.OpenSpec.ofChange s with cond := some uptoSmall }

/-- 'withylaw13.MetaTells', WHERE WHAT IT READS IS OF BULK AT MOST 1048576: true; the input reads as it did. -/
def metaTellsUptoRow : OpenClaim := { program := "ytnkndnpnjbcaoaa", sum := "ffb5bbae79ebd7c4368b88d625f4872f3b9d003a681e1426920dafe1d132b51b", func := "withy/withylaw13.MetaTells", spec := "metaTells", inPlace := ["internal/abi.NoEscape", "internal/bytealg.MakeNoZero", "internal/reflectlite.TypeOf"], unfollowed := true, recurses := true, apart := false, narrowed := true }
def MetaTellsUptoSaid : Prop := metaTellsUptoRow.holds Try.pinned (OpenSpec.upto metaTellsSpec)

/-- 'withylaw13.MetaBack', WHERE WHAT IT READS IS OF BULK AT MOST 1048576: true; the input reads as it did. -/
def metaBackUptoRow : OpenClaim := { program := "ytnkndnpnjbcaoaa", sum := "ffb5bbae79ebd7c4368b88d625f4872f3b9d003a681e1426920dafe1d132b51b", func := "withy/withylaw13.MetaBack", spec := "metaBack", inPlace := ["internal/abi.NoEscape", "internal/bytealg.MakeNoZero", "internal/reflectlite.TypeOf"], unfollowed := true, recurses := true, apart := false, narrowed := true }
def MetaBackUptoSaid : Prop := metaBackUptoRow.holds Try.pinned (OpenSpec.upto metaBackSpec)

/-- 'withylaw13.MetaTorn', WHERE WHAT IT READS IS OF BULK AT MOST 1048576: true; the input reads as it did. -/
def metaTornUptoRow : OpenClaim := { program := "ytnkndnpnjbcaoaa", sum := "ffb5bbae79ebd7c4368b88d625f4872f3b9d003a681e1426920dafe1d132b51b", func := "withy/withylaw13.MetaTorn", spec := "metaTorn", inPlace := ["internal/abi.NoEscape", "internal/bytealg.MakeNoZero", "internal/reflectlite.TypeOf"], unfollowed := true, recurses := true, apart := false, narrowed := true }
def MetaTornUptoSaid : Prop := metaTornUptoRow.holds Try.pinned (OpenSpec.upto metaTornSpec)

/-- 'withylaw13.MetaFields', WHERE WHAT IT READS IS OF BULK AT MOST 1048576: true; the input reads as it did. -/
def metaFieldsUptoRow : OpenClaim := { program := "ytnkndnpnjbcaoaa", sum := "ffb5bbae79ebd7c4368b88d625f4872f3b9d003a681e1426920dafe1d132b51b", func := "withy/withylaw13.MetaFields", spec := "metaFields", inPlace := ["internal/abi.NoEscape", "internal/bytealg.MakeNoZero", "internal/reflectlite.TypeOf"], unfollowed := true, recurses := true, apart := false, narrowed := true }
def MetaFieldsUptoSaid : Prop := metaFieldsUptoRow.holds Try.pinned (OpenSpec.upto metaFieldsSpec)

/-- 'withylaw13.MetaTears', WHERE WHAT IT READS IS OF BULK AT MOST 1048576: true; the input reads as it did. -/
def metaTearsUptoRow : OpenClaim := { program := "ytnkndnpnjbcaoaa", sum := "ffb5bbae79ebd7c4368b88d625f4872f3b9d003a681e1426920dafe1d132b51b", func := "withy/withylaw13.MetaTears", spec := "metaTears", inPlace := ["internal/abi.NoEscape", "internal/bytealg.MakeNoZero", "internal/reflectlite.TypeOf"], unfollowed := true, recurses := true, apart := false, narrowed := true }
def MetaTearsUptoSaid : Prop := metaTearsUptoRow.holds Try.pinned (OpenSpec.upto metaTearsSpec)

/-- 'withylaw13.MetaEach', WHERE WHAT IT READS IS OF BULK AT MOST 1048576: true; the input reads as it did. -/
def metaEachUptoRow : OpenClaim := { program := "ytnkndnpnjbcaoaa", sum := "ffb5bbae79ebd7c4368b88d625f4872f3b9d003a681e1426920dafe1d132b51b", func := "withy/withylaw13.MetaEach", spec := "metaEach", inPlace := ["internal/abi.NoEscape", "internal/bytealg.MakeNoZero", "internal/reflectlite.TypeOf"], unfollowed := true, recurses := true, apart := false, narrowed := true }
def MetaEachUptoSaid : Prop := metaEachUptoRow.holds Try.pinned (OpenSpec.upto metaEachSpec)

end Rows
end Go.Proofs.Ytnkndnpnjbcaoaa
