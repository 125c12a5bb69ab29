/-
  No cell of these rows narrows 'for every input' (looked for: loops, veiled, ifaces, maps, wideKeys, modest, calm, conditions, laid).
  DERIVED. THE GIVEN ROWS OF THIS SEAT. 6 by the template 'for every input the law returns true; each argument reads behind the call as it read before'; 0 by the template 'total and deterministic' (their statements: YtfialmegikegbaaTotals.lean).
  GIVEN WITH THE SEED: the statements are not yours to turn. If you find one false, say at which input.
  Laid BY PROGRAM, IN A SANDBOX (cutbox-rows.mjs): the forced cells as the released guide's own fill.sh prints them over the translation b56872e0e44217fa… (all of the seat's roots in one cut). By AI agents, Wed Nov 11 2026. No macro, syntax, notation, axiom, sorry.
-/
import Derived.Test.YtfialmegikegbaaChecked
import GoSem.Claim
import GoSem.ClaimJoined
import GoSem.ClaimMapViews
import Derived.JoinedTies
import Derived.KernelRfl
namespace Go.Proofs.Ytfialmegikegbaa
/- THE CELL 'sum', in the pinned program and in every row, IS THE sha256 OF THE DUMP (.gsa) THAT YtfialmegikegbaaProg.lean LOADS. Nothing in Lean hashes anything: it is a label: what it is worth is what the hold of that sum in a sandbox is worth. -/
noncomputable def Try.pinned : Pinned := { name := "ytfialmegikegbaa", sum := "b56872e0e44217fa53a9b1f6e7c9dba9ce2862a3a198093651b6a1f477eadb07", checked := Try.checked }
namespace Rows
def none {H : Type} : Left H := { results := [], args := [] }

/-- 'withylaw17.LevelTells': WHATEVER THE INPUT: true; the input reads as it did. -/
def levelTellsSpec : ChangeSpec := { name := "levelTells", fn := fun _ => fun
  | [d1, d2, d3] => { results := [.lit (.bool true)], args := [d1, d2, d3] }
  | _ => none }
def levelTellsRow : OpenClaim := { program := "ytfialmegikegbaa", sum := "b56872e0e44217fa53a9b1f6e7c9dba9ce2862a3a198093651b6a1f477eadb07", func := "withy/withylaw17.LevelTells", spec := "levelTells", inPlace := ["internal/abi.NoEscape", "internal/bytealg.MakeNoZero"], unfollowed := true, recurses := true, apart := false }
def LevelTellsSaid : Prop := levelTellsRow.holds Try.pinned (OpenSpec.ofChange levelTellsSpec)

/-- ITS FALSE NEIGHBOUR: 'it returns false'. Refute it at one input. -/
def levelTellsWrong : ChangeSpec := { name := "levelTells", fn := fun _ => fun
  | [d1, d2, d3] => { results := [.lit (.bool false)], args := [d1, d2, d3] }
  | _ => none }
def LevelTellsWrongFalsely : Prop := levelTellsRow.holds Try.pinned (OpenSpec.ofChange levelTellsWrong)

/-- 'withylaw17.LevelAll': WHATEVER THE INPUT: true; the input reads as it did. -/
def levelAllSpec : ChangeSpec := { name := "levelAll", fn := fun _ => fun
  | [d1, d2] => { results := [.lit (.bool true)], args := [d1, d2] }
  | _ => none }
def levelAllRow : OpenClaim := { program := "ytfialmegikegbaa", sum := "b56872e0e44217fa53a9b1f6e7c9dba9ce2862a3a198093651b6a1f477eadb07", func := "withy/withylaw17.LevelAll", spec := "levelAll", inPlace := ["internal/abi.NoEscape", "internal/bytealg.MakeNoZero"], unfollowed := true, recurses := true, apart := false }
def LevelAllSaid : Prop := levelAllRow.holds Try.pinned (OpenSpec.ofChange levelAllSpec)

/-- ITS FALSE NEIGHBOUR: 'it returns false'. Refute it at one input. -/
def levelAllWrong : ChangeSpec := { name := "levelAll", fn := fun _ => fun
  | [d1, d2] => { results := [.lit (.bool false)], args := [d1, d2] }
  | _ => none }
def LevelAllWrongFalsely : Prop := levelAllRow.holds Try.pinned (OpenSpec.ofChange levelAllWrong)

/-- 'withylaw17.LevelHeights': WHATEVER THE INPUT: true; the input reads as it did. -/
def levelHeightsSpec : ChangeSpec := { name := "levelHeights", fn := fun _ => fun
  | [d1, d2] => { results := [.lit (.bool true)], args := [d1, d2] }
  | _ => none }
def levelHeightsRow : OpenClaim := { program := "ytfialmegikegbaa", sum := "b56872e0e44217fa53a9b1f6e7c9dba9ce2862a3a198093651b6a1f477eadb07", func := "withy/withylaw17.LevelHeights", spec := "levelHeights", inPlace := ["internal/abi.NoEscape", "internal/bytealg.MakeNoZero"], unfollowed := true, recurses := true, apart := false }
def LevelHeightsSaid : Prop := levelHeightsRow.holds Try.pinned (OpenSpec.ofChange levelHeightsSpec)

/-- ITS FALSE NEIGHBOUR: 'it returns false'. Refute it at one input. -/
def levelHeightsWrong : ChangeSpec := { name := "levelHeights", fn := fun _ => fun
  | [d1, d2] => { results := [.lit (.bool false)], args := [d1, d2] }
  | _ => none }
def LevelHeightsWrongFalsely : Prop := levelHeightsRow.holds Try.pinned (OpenSpec.ofChange levelHeightsWrong)

/-- 'withylaw17.LevelLonger': WHATEVER THE INPUT: true; the input reads as it did. -/
def levelLongerSpec : ChangeSpec := { name := "levelLonger", fn := fun _ => fun
  | [d1, d2] => { results := [.lit (.bool true)], args := [d1, d2] }
  | _ => none }
def levelLongerRow : OpenClaim := { program := "ytfialmegikegbaa", sum := "b56872e0e44217fa53a9b1f6e7c9dba9ce2862a3a198093651b6a1f477eadb07", func := "withy/withylaw17.LevelLonger", spec := "levelLonger", inPlace := ["internal/abi.NoEscape", "internal/bytealg.MakeNoZero"], unfollowed := true, recurses := true, apart := false }
def LevelLongerSaid : Prop := levelLongerRow.holds Try.pinned (OpenSpec.ofChange levelLongerSpec)

/-- ITS FALSE NEIGHBOUR: 'it returns false'. Refute it at one input. -/
def levelLongerWrong : ChangeSpec := { name := "levelLonger", fn := fun _ => fun
  | [d1, d2] => { results := [.lit (.bool false)], args := [d1, d2] }
  | _ => none }
def LevelLongerWrongFalsely : Prop := levelLongerRow.holds Try.pinned (OpenSpec.ofChange levelLongerWrong)

/-- 'withylaw17.LevelLast': WHATEVER THE INPUT: true; the input reads as it did. -/
def levelLastSpec : ChangeSpec := { name := "levelLast", fn := fun _ => fun
  | [d1, d2, d3] => { results := [.lit (.bool true)], args := [d1, d2, d3] }
  | _ => none }
def levelLastRow : OpenClaim := { program := "ytfialmegikegbaa", sum := "b56872e0e44217fa53a9b1f6e7c9dba9ce2862a3a198093651b6a1f477eadb07", func := "withy/withylaw17.LevelLast", spec := "levelLast", inPlace := ["internal/abi.NoEscape", "internal/bytealg.MakeNoZero"], unfollowed := true, recurses := true, apart := false }
def LevelLastSaid : Prop := levelLastRow.holds Try.pinned (OpenSpec.ofChange levelLastSpec)

/-- ITS FALSE NEIGHBOUR: 'it returns false'. Refute it at one input. -/
def levelLastWrong : ChangeSpec := { name := "levelLast", fn := fun _ => fun
  | [d1, d2, d3] => { results := [.lit (.bool false)], args := [d1, d2, d3] }
  | _ => none }
def LevelLastWrongFalsely : Prop := levelLastRow.holds Try.pinned (OpenSpec.ofChange levelLastWrong)

/-- 'withylaw17.LevelRoom': WHATEVER THE INPUT: true; the input reads as it did. -/
def levelRoomSpec : ChangeSpec := { name := "levelRoom", fn := fun _ => fun
  | [d1, d2] => { results := [.lit (.bool true)], args := [d1, d2] }
  | _ => none }
def levelRoomRow : OpenClaim := { program := "ytfialmegikegbaa", sum := "b56872e0e44217fa53a9b1f6e7c9dba9ce2862a3a198093651b6a1f477eadb07", func := "withy/withylaw17.LevelRoom", spec := "levelRoom", inPlace := ["internal/abi.NoEscape", "internal/bytealg.MakeNoZero", "internal/reflectlite.TypeOf"], unfollowed := true, recurses := true, apart := false }
def LevelRoomSaid : Prop := levelRoomRow.holds Try.pinned (OpenSpec.ofChange levelRoomSpec)

/-- ITS FALSE NEIGHBOUR: 'it returns false'. Refute it at one input. -/
def levelRoomWrong : ChangeSpec := { name := "levelRoom", fn := fun _ => fun
  | [d1, d2] => { results := [.lit (.bool false)], args := [d1, d2] }
  | _ => none }
def LevelRoomWrongFalsely : Prop := levelRoomRow.holds Try.pinned (OpenSpec.ofChange levelRoomWrong)

/- THE SECOND FORM. 'bulk': how many values and letters a reading holds, each counted each time it is reached (what is shared counts as often as it is met; a slice's spare places count too). A statement '..UptoSaid' is the law's where the arguments, and the package variables that the reading takes, are together of bulk at most 1048576: NARROWER than '..Said'. Prove '..Said' where nothing that the law and all that it calls make is longer than what came in: it says more and counts as full. Else prove '..UptoSaid'. A law counts once. -/
mutual
def uptoBulk {H : Type} : DataW H → Nat
  | .lit (.string bytes) => bytes.length + 1
  | .lit _ => 1
  | .nil => 1
  | .ptr d => uptoBulk d + 1
  | .slice elems spare => uptoBulkAll elems + uptoBulkAll spare + 1
  | .agg parts => uptoBulkAll parts + 1
  | .iface _ d => uptoBulk d + 1
  | .map entries => uptoBulkEntries entries + 1
  | .held _ => 1
def uptoBulkAll {H : Type} : List (DataW H) → Nat
  | [] => 0
  | d :: r => uptoBulk d + uptoBulkAll r
def uptoBulkEntries {H : Type} : List (Lit × DataW H) → Nat
  | [] => 0
  | x :: r => uptoBulkEntry x + uptoBulkEntries r
def uptoBulkEntry {H : Type} : Lit × DataW H → Nat
  | (.string bytes, d) => bytes.length + uptoBulk d + 1
  | (_, d) => uptoBulk d + 1
 end
def uptoSmall : (H : Type) → List (DataW H) → Bool := fun _ ds => decide (uptoBulkAll ds ≤ 1048576)
def OpenSpec.upto (s : _root_.Go.ChangeSpec) : _root_.Go.OpenSpec := { _root_.Go.OpenSpec.ofChange s with cond := some uptoSmall }

/-- 'withylaw17.LevelTells', WHERE WHAT IT READS IS OF BULK AT MOST 1048576: true; the input reads as it did. -/
def levelTellsUptoRow : OpenClaim := { program := "ytfialmegikegbaa", sum := "b56872e0e44217fa53a9b1f6e7c9dba9ce2862a3a198093651b6a1f477eadb07", func := "withy/withylaw17.LevelTells", spec := "levelTells", inPlace := ["internal/abi.NoEscape", "internal/bytealg.MakeNoZero"], unfollowed := true, recurses := true, apart := false, narrowed := true }
def LevelTellsUptoSaid : Prop := levelTellsUptoRow.holds Try.pinned (OpenSpec.upto levelTellsSpec)

/-- 'withylaw17.LevelAll', WHERE WHAT IT READS IS OF BULK AT MOST 1048576: true; the input reads as it did. -/
def levelAllUptoRow : OpenClaim := { program := "ytfialmegikegbaa", sum := "b56872e0e44217fa53a9b1f6e7c9dba9ce2862a3a198093651b6a1f477eadb07", func := "withy/withylaw17.LevelAll", spec := "levelAll", inPlace := ["internal/abi.NoEscape", "internal/bytealg.MakeNoZero"], unfollowed := true, recurses := true, apart := false, narrowed := true }
def LevelAllUptoSaid : Prop := levelAllUptoRow.holds Try.pinned (OpenSpec.upto levelAllSpec)

/-- 'withylaw17.LevelHeights', WHERE WHAT IT READS IS OF BULK AT MOST 1048576: true; the input reads as it did. -/
def levelHeightsUptoRow : OpenClaim := { program := "ytfialmegikegbaa", sum := "b56872e0e44217fa53a9b1f6e7c9dba9ce2862a3a198093651b6a1f477eadb07", func := "withy/withylaw17.LevelHeights", spec := "levelHeights", inPlace := ["internal/abi.NoEscape", "internal/bytealg.MakeNoZero"], unfollowed := true, recurses := true, apart := false, narrowed := true }
def LevelHeightsUptoSaid : Prop := levelHeightsUptoRow.holds Try.pinned (OpenSpec.upto levelHeightsSpec)

/-- 'withylaw17.LevelLonger', WHERE WHAT IT READS IS OF BULK AT MOST 1048576: true; the input reads as it did. -/
def levelLongerUptoRow : OpenClaim := { program := "ytfialmegikegbaa", sum := "b56872e0e44217fa53a9b1f6e7c9dba9ce2862a3a198093651b6a1f477eadb07", func := "withy/withylaw17.LevelLonger", spec := "levelLonger", inPlace := ["internal/abi.NoEscape", "internal/bytealg.MakeNoZero"], unfollowed := true, recurses := true, apart := false, narrowed := true }
def LevelLongerUptoSaid : Prop := levelLongerUptoRow.holds Try.pinned (OpenSpec.upto levelLongerSpec)

/-- 'withylaw17.LevelLast', WHERE WHAT IT READS IS OF BULK AT MOST 1048576: true; the input reads as it did. -/
def levelLastUptoRow : OpenClaim := { program := "ytfialmegikegbaa", sum := "b56872e0e44217fa53a9b1f6e7c9dba9ce2862a3a198093651b6a1f477eadb07", func := "withy/withylaw17.LevelLast", spec := "levelLast", inPlace := ["internal/abi.NoEscape", "internal/bytealg.MakeNoZero"], unfollowed := true, recurses := true, apart := false, narrowed := true }
def LevelLastUptoSaid : Prop := levelLastUptoRow.holds Try.pinned (OpenSpec.upto levelLastSpec)

/-- 'withylaw17.LevelRoom', WHERE WHAT IT READS IS OF BULK AT MOST 1048576: true; the input reads as it did. -/
def levelRoomUptoRow : OpenClaim := { program := "ytfialmegikegbaa", sum := "b56872e0e44217fa53a9b1f6e7c9dba9ce2862a3a198093651b6a1f477eadb07", func := "withy/withylaw17.LevelRoom", spec := "levelRoom", inPlace := ["internal/abi.NoEscape", "internal/bytealg.MakeNoZero", "internal/reflectlite.TypeOf"], unfollowed := true, recurses := true, apart := false, narrowed := true }
def LevelRoomUptoSaid : Prop := levelRoomUptoRow.holds Try.pinned (OpenSpec.upto levelRoomSpec)

end Rows
end Go.Proofs.Ytfialmegikegbaa
