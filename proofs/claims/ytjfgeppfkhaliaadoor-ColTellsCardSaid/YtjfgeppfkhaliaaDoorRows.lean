/-
  NARROWER THAN 'FOR EVERY INPUT', by the rows' own cells (each row's printed sentence says how): ColTells: laid · ColOrder: laid · ColBack: laid · ColOnce: laid · ColThree: laid · ColSizes: laid.
  DERIVED. THE GIVEN ROWS OF THIS SEAT. 6 by the template 'for every input the law returns true; each argument reads behind the call as it read before'; 0 by the template 'total and deterministic' (their statements: YtjfgeppfkhaliaaDoorTotals.lean).
  GIVEN WITH THE SEED: the statements are not yours to turn. If you find one false, say at which input.
  Laid BY PROGRAM, IN A SANDBOX (cutbox-rows.mjs): the forced cells as the released guide's own fill.sh prints them over the translation f161de78bddcafc9… (all of the seat's roots in one cut). By AI agents, Wed Nov 11 2026. No macro, syntax, notation, axiom, sorry.
-/
import Derived.Test.YtjfgeppfkhaliaaDoorChecked
import GoSem.PinnedTables
import GoSem.Claim
import GoSem.ClaimJoined
import GoSem.ClaimMapViews
import Derived.JoinedTies
import Derived.KernelRfl
namespace Go.Proofs.YtjfgeppfkhaliaaDoor
/- THE CELL 'sum', in the pinned program and in every row, IS THE sha256 OF THE DUMP (.gsa) THAT YtjfgeppfkhaliaaDoorProg.lean LOADS. Nothing in Lean hashes anything: it is a label: what it is worth is what the hold of that sum in a sandbox is worth. -/
noncomputable def Tryd.pinned : Pinned := { name := "ytjfgeppfkhaliaadoor", sum := "f161de78bddcafc95d6ead177a2dd80daa677e73f3335e98fd8512d2f8c01bf5", checked := Tryd.checked }
namespace Rows
def none {H : Type} : Left H := { results := [], args := [] }

/- WHAT THE LISTED PACKAGE-LEVEL VARIABLES READ AS WHEN THE CALL BEGINS. Each datum BY PROGRAM (the guide's laid-datum.mjs) off the statement by which the dump's own 'gosem.cut.vars' lays the variable. In a bare row this is a premise. The card (YtjfgeppfkhaliaaDoorCards.lean) ties it to the program's text. -/
def laid_unicode_utf8_acceptRanges {H : Type} : DataW H := .agg [.agg [.lit (.int .u8 128), .lit (.int .u8 191)], .agg [.lit (.int .u8 160), .lit (.int .u8 191)], .agg [.lit (.int .u8 128), .lit (.int .u8 159)], .agg [.lit (.int .u8 144), .lit (.int .u8 191)], .agg [.lit (.int .u8 128), .lit (.int .u8 143)], .agg [.lit (.int .u8 0), .lit (.int .u8 0)], .agg [.lit (.int .u8 0), .lit (.int .u8 0)], .agg [.lit (.int .u8 0), .lit (.int .u8 0)], .agg [.lit (.int .u8 0), .lit (.int .u8 0)], .agg [.lit (.int .u8 0), .lit (.int .u8 0)], .agg [.lit (.int .u8 0), .lit (.int .u8 0)], .agg [.lit (.int .u8 0), .lit (.int .u8 0)], .agg [.lit (.int .u8 0), .lit (.int .u8 0)], .agg [.lit (.int .u8 0), .lit (.int .u8 0)], .agg [.lit (.int .u8 0), .lit (.int .u8 0)], .agg [.lit (.int .u8 0), .lit (.int .u8 0)]]
/-- One of Go's own tables, pinned by name: the form's constant. -/
def laid_unicode_utf8_first : DataW Unit := Go.Pinned.utf8First

/-- 'withylaw03.ColTells': WHATEVER THE INPUT: true; the input reads as it did. -/
def colTellsSpec : ChangeSpec := { name := "colTells", fn := fun _ => fun
  | [d1, d2, d3] => { results := [.lit (.bool true)], args := [d1, d2, d3] }
  | _ => none }
def colTellsRow : OpenClaim := { program := "ytjfgeppfkhaliaadoor", sum := "f161de78bddcafc95d6ead177a2dd80daa677e73f3335e98fd8512d2f8c01bf5", func := "withy/withylaw03.ColTells", spec := "colTells", inPlace := ["internal/bytealg.CountString", "internal/bytealg.IndexByteString", "internal/bytealg.IndexString", "internal/abi.NoEscape", "internal/bytealg.MakeNoZero", "internal/bytealg.abigen_runtime_cmpstring"], unfollowed := true, recurses := true, named := ["internal/bytealg.MaxLen", "unicode/utf8.first", "unicode/utf8.acceptRanges"], apart := false, laid := [("unicode/utf8.acceptRanges", laid_unicode_utf8_acceptRanges), ("unicode/utf8.first", laid_unicode_utf8_first)] }
def ColTellsSaid : Prop := colTellsRow.holds Tryd.pinned (OpenSpec.ofChange colTellsSpec)

/-- ITS FALSE NEIGHBOUR: 'it returns false'. Refute it at one input. -/
def colTellsWrong : ChangeSpec := { name := "colTells", fn := fun _ => fun
  | [d1, d2, d3] => { results := [.lit (.bool false)], args := [d1, d2, d3] }
  | _ => none }
def ColTellsWrongFalsely : Prop := colTellsRow.holds Tryd.pinned (OpenSpec.ofChange colTellsWrong)

/-- 'withylaw03.ColOrder': WHATEVER THE INPUT: true; the input reads as it did. -/
def colOrderSpec : ChangeSpec := { name := "colOrder", fn := fun _ => fun
  | [d1, d2, d3] => { results := [.lit (.bool true)], args := [d1, d2, d3] }
  | _ => none }
def colOrderRow : OpenClaim := { program := "ytjfgeppfkhaliaadoor", sum := "f161de78bddcafc95d6ead177a2dd80daa677e73f3335e98fd8512d2f8c01bf5", func := "withy/withylaw03.ColOrder", spec := "colOrder", inPlace := ["internal/bytealg.CountString", "internal/bytealg.IndexByteString", "internal/bytealg.IndexString", "internal/abi.NoEscape", "internal/bytealg.MakeNoZero", "internal/bytealg.abigen_runtime_cmpstring"], unfollowed := true, recurses := true, named := ["internal/bytealg.MaxLen", "unicode/utf8.first", "unicode/utf8.acceptRanges"], apart := false, laid := [("unicode/utf8.acceptRanges", laid_unicode_utf8_acceptRanges), ("unicode/utf8.first", laid_unicode_utf8_first)] }
def ColOrderSaid : Prop := colOrderRow.holds Tryd.pinned (OpenSpec.ofChange colOrderSpec)

/-- ITS FALSE NEIGHBOUR: 'it returns false'. Refute it at one input. -/
def colOrderWrong : ChangeSpec := { name := "colOrder", fn := fun _ => fun
  | [d1, d2, d3] => { results := [.lit (.bool false)], args := [d1, d2, d3] }
  | _ => none }
def ColOrderWrongFalsely : Prop := colOrderRow.holds Tryd.pinned (OpenSpec.ofChange colOrderWrong)

/-- 'withylaw03.ColBack': WHATEVER THE INPUT: true; the input reads as it did. -/
def colBackSpec : ChangeSpec := { name := "colBack", fn := fun _ => fun
  | [d1, d2, d3] => { results := [.lit (.bool true)], args := [d1, d2, d3] }
  | _ => none }
def colBackRow : OpenClaim := { program := "ytjfgeppfkhaliaadoor", sum := "f161de78bddcafc95d6ead177a2dd80daa677e73f3335e98fd8512d2f8c01bf5", func := "withy/withylaw03.ColBack", spec := "colBack", inPlace := ["internal/bytealg.CountString", "internal/bytealg.IndexByteString", "internal/bytealg.IndexString", "internal/abi.NoEscape", "internal/bytealg.MakeNoZero", "internal/bytealg.abigen_runtime_cmpstring"], unfollowed := true, recurses := true, named := ["internal/bytealg.MaxLen", "unicode/utf8.first", "unicode/utf8.acceptRanges"], apart := false, laid := [("unicode/utf8.acceptRanges", laid_unicode_utf8_acceptRanges), ("unicode/utf8.first", laid_unicode_utf8_first)] }
def ColBackSaid : Prop := colBackRow.holds Tryd.pinned (OpenSpec.ofChange colBackSpec)

/-- ITS FALSE NEIGHBOUR: 'it returns false'. Refute it at one input. -/
def colBackWrong : ChangeSpec := { name := "colBack", fn := fun _ => fun
  | [d1, d2, d3] => { results := [.lit (.bool false)], args := [d1, d2, d3] }
  | _ => none }
def ColBackWrongFalsely : Prop := colBackRow.holds Tryd.pinned (OpenSpec.ofChange colBackWrong)

/-- 'withylaw03.ColOnce': WHATEVER THE INPUT: true; the input reads as it did. -/
def colOnceSpec : ChangeSpec := { name := "colOnce", fn := fun _ => fun
  | [d1, d2] => { results := [.lit (.bool true)], args := [d1, d2] }
  | _ => none }
def colOnceRow : OpenClaim := { program := "ytjfgeppfkhaliaadoor", sum := "f161de78bddcafc95d6ead177a2dd80daa677e73f3335e98fd8512d2f8c01bf5", func := "withy/withylaw03.ColOnce", spec := "colOnce", inPlace := ["internal/bytealg.CountString", "internal/bytealg.IndexByteString", "internal/bytealg.IndexString", "internal/abi.NoEscape", "internal/bytealg.MakeNoZero", "internal/bytealg.abigen_runtime_cmpstring"], unfollowed := true, recurses := true, named := ["internal/bytealg.MaxLen", "unicode/utf8.first", "unicode/utf8.acceptRanges"], apart := false, laid := [("unicode/utf8.acceptRanges", laid_unicode_utf8_acceptRanges), ("unicode/utf8.first", laid_unicode_utf8_first)] }
def ColOnceSaid : Prop := colOnceRow.holds Tryd.pinned (OpenSpec.ofChange colOnceSpec)

/-- ITS FALSE NEIGHBOUR: 'it returns false'. Refute it at one input. -/
def colOnceWrong : ChangeSpec := { name := "colOnce", fn := fun _ => fun
  | [d1, d2] => { results := [.lit (.bool false)], args := [d1, d2] }
  | _ => none }
def ColOnceWrongFalsely : Prop := colOnceRow.holds Tryd.pinned (OpenSpec.ofChange colOnceWrong)

/-- 'withylaw03.ColThree': WHATEVER THE INPUT: true; the input reads as it did. -/
def colThreeSpec : ChangeSpec := { name := "colThree", fn := fun _ => fun
  | [d1, d2, d3] => { results := [.lit (.bool true)], args := [d1, d2, d3] }
  | _ => none }
def colThreeRow : OpenClaim := { program := "ytjfgeppfkhaliaadoor", sum := "f161de78bddcafc95d6ead177a2dd80daa677e73f3335e98fd8512d2f8c01bf5", func := "withy/withylaw03.ColThree", spec := "colThree", inPlace := ["internal/bytealg.CountString", "internal/bytealg.IndexByteString", "internal/bytealg.IndexString", "internal/abi.NoEscape", "internal/bytealg.MakeNoZero", "internal/bytealg.abigen_runtime_cmpstring"], unfollowed := true, recurses := true, named := ["internal/bytealg.MaxLen", "unicode/utf8.first", "unicode/utf8.acceptRanges"], apart := false, laid := [("unicode/utf8.acceptRanges", laid_unicode_utf8_acceptRanges), ("unicode/utf8.first", laid_unicode_utf8_first)] }
def ColThreeSaid : Prop := colThreeRow.holds Tryd.pinned (OpenSpec.ofChange colThreeSpec)

/-- ITS FALSE NEIGHBOUR: 'it returns false'. Refute it at one input. -/
def colThreeWrong : ChangeSpec := { name := "colThree", fn := fun _ => fun
  | [d1, d2, d3] => { results := [.lit (.bool false)], args := [d1, d2, d3] }
  | _ => none }
def ColThreeWrongFalsely : Prop := colThreeRow.holds Tryd.pinned (OpenSpec.ofChange colThreeWrong)

/-- 'withylaw03.ColSizes': WHATEVER THE INPUT: true; the input reads as it did. -/
def colSizesSpec : ChangeSpec := { name := "colSizes", fn := fun _ => fun
  | [d] => { results := [.lit (.bool true)], args := [d] }
  | _ => none }
def colSizesRow : OpenClaim := { program := "ytjfgeppfkhaliaadoor", sum := "f161de78bddcafc95d6ead177a2dd80daa677e73f3335e98fd8512d2f8c01bf5", func := "withy/withylaw03.ColSizes", spec := "colSizes", inPlace := ["internal/bytealg.CountString", "internal/bytealg.IndexByteString", "internal/bytealg.IndexString", "internal/abi.NoEscape", "internal/bytealg.MakeNoZero", "internal/bytealg.abigen_runtime_cmpstring"], unfollowed := true, recurses := true, named := ["internal/bytealg.MaxLen", "unicode/utf8.first", "unicode/utf8.acceptRanges"], apart := false, laid := [("unicode/utf8.acceptRanges", laid_unicode_utf8_acceptRanges), ("unicode/utf8.first", laid_unicode_utf8_first)] }
def ColSizesSaid : Prop := colSizesRow.holds Tryd.pinned (OpenSpec.ofChange colSizesSpec)

/-- ITS FALSE NEIGHBOUR: 'it returns false'. Refute it at one input. -/
def colSizesWrong : ChangeSpec := { name := "colSizes", fn := fun _ => fun
  | [d] => { results := [.lit (.bool false)], args := [d] }
  | _ => none }
def ColSizesWrongFalsely : Prop := colSizesRow.holds Tryd.pinned (OpenSpec.ofChange colSizesWrong)

/- THE SECOND FORM. 'bulk': how many values and letters a reading holds, each counted each time it is reached (what is shared counts as often as it is met; a slice's spare places count too). A statement '..UptoSaid' is the law's where the arguments, and the package variables that the reading takes, are together of bulk at most 1048576: NARROWER than '..Said'. Prove '..Said' where nothing that the law and all that it calls make is longer than what came in: it says more and counts as full. Else prove '..UptoSaid'. A law counts once. -/
mutual
def uptoBulk {H : Type} : DataW H → Nat
  | .lit (.string bytes) => bytes.length + 1
  | .lit _ => 1
  | .nil => 1
  | .ptr d => uptoBulk d + 1
  | .slice elems spare => uptoBulkAll elems + uptoBulkAll spare + 1
  | .agg parts => uptoBulkAll parts + 1
  | .iface _ d => uptoBulk d + 1
  | .map entries => uptoBulkEntries entries + 1
  | .held _ => 1
def uptoBulkAll {H : Type} : List (DataW H) → Nat
  | [] => 0
  | d :: r => uptoBulk d + uptoBulkAll r
def uptoBulkEntries {H : Type} : List (Lit × DataW H) → Nat
  | [] => 0
  | x :: r => uptoBulkEntry x + uptoBulkEntries r
def uptoBulkEntry {H : Type} : Lit × DataW H → Nat
  | (.string bytes, d) => bytes.length + uptoBulk d + 1
  | (_, d) => uptoBulk d + 1
 end
def uptoSmall : (H : Type) → List (DataW H) → Bool := fun _ ds => decide (uptoBulkAll ds ≤ 1048576)
def OpenSpec.upto (s : _root_.Go.ChangeSpec) : _root_.Go.OpenSpec := { _root_.Go.OpenSpec.ofChange s with cond := some uptoSmall }

/-- 'withylaw03.ColTells', WHERE WHAT IT READS IS OF BULK AT MOST 1048576: true; the input reads as it did. -/
def colTellsUptoRow : OpenClaim := { program := "ytjfgeppfkhaliaadoor", sum := "f161de78bddcafc95d6ead177a2dd80daa677e73f3335e98fd8512d2f8c01bf5", func := "withy/withylaw03.ColTells", spec := "colTells", inPlace := ["internal/bytealg.CountString", "internal/bytealg.IndexByteString", "internal/bytealg.IndexString", "internal/abi.NoEscape", "internal/bytealg.MakeNoZero", "internal/bytealg.abigen_runtime_cmpstring"], unfollowed := true, recurses := true, named := ["internal/bytealg.MaxLen", "unicode/utf8.first", "unicode/utf8.acceptRanges"], apart := false, laid := [("unicode/utf8.acceptRanges", laid_unicode_utf8_acceptRanges), ("unicode/utf8.first", laid_unicode_utf8_first)], narrowed := true }
def ColTellsUptoSaid : Prop := colTellsUptoRow.holds Tryd.pinned (OpenSpec.upto colTellsSpec)

/-- 'withylaw03.ColOrder', WHERE WHAT IT READS IS OF BULK AT MOST 1048576: true; the input reads as it did. -/
def colOrderUptoRow : OpenClaim := { program := "ytjfgeppfkhaliaadoor", sum := "f161de78bddcafc95d6ead177a2dd80daa677e73f3335e98fd8512d2f8c01bf5", func := "withy/withylaw03.ColOrder", spec := "colOrder", inPlace := ["internal/bytealg.CountString", "internal/bytealg.IndexByteString", "internal/bytealg.IndexString", "internal/abi.NoEscape", "internal/bytealg.MakeNoZero", "internal/bytealg.abigen_runtime_cmpstring"], unfollowed := true, recurses := true, named := ["internal/bytealg.MaxLen", "unicode/utf8.first", "unicode/utf8.acceptRanges"], apart := false, laid := [("unicode/utf8.acceptRanges", laid_unicode_utf8_acceptRanges), ("unicode/utf8.first", laid_unicode_utf8_first)], narrowed := true }
def ColOrderUptoSaid : Prop := colOrderUptoRow.holds Tryd.pinned (OpenSpec.upto colOrderSpec)

/-- 'withylaw03.ColBack', WHERE WHAT IT READS IS OF BULK AT MOST 1048576: true; the input reads as it did. -/
def colBackUptoRow : OpenClaim := { program := "ytjfgeppfkhaliaadoor", sum := "f161de78bddcafc95d6ead177a2dd80daa677e73f3335e98fd8512d2f8c01bf5", func := "withy/withylaw03.ColBack", spec := "colBack", inPlace := ["internal/bytealg.CountString", "internal/bytealg.IndexByteString", "internal/bytealg.IndexString", "internal/abi.NoEscape", "internal/bytealg.MakeNoZero", "internal/bytealg.abigen_runtime_cmpstring"], unfollowed := true, recurses := true, named := ["internal/bytealg.MaxLen", "unicode/utf8.first", "unicode/utf8.acceptRanges"], apart := false, laid := [("unicode/utf8.acceptRanges", laid_unicode_utf8_acceptRanges), ("unicode/utf8.first", laid_unicode_utf8_first)], narrowed := true }
def ColBackUptoSaid : Prop := colBackUptoRow.holds Tryd.pinned (OpenSpec.upto colBackSpec)

/-- 'withylaw03.ColOnce', WHERE WHAT IT READS IS OF BULK AT MOST 1048576: true; the input reads as it did. -/
def colOnceUptoRow : OpenClaim := { program := "ytjfgeppfkhaliaadoor", sum := "f161de78bddcafc95d6ead177a2dd80daa677e73f3335e98fd8512d2f8c01bf5", func := "withy/withylaw03.ColOnce", spec := "colOnce", inPlace := ["internal/bytealg.CountString", "internal/bytealg.IndexByteString", "internal/bytealg.IndexString", "internal/abi.NoEscape", "internal/bytealg.MakeNoZero", "internal/bytealg.abigen_runtime_cmpstring"], unfollowed := true, recurses := true, named := ["internal/bytealg.MaxLen", "unicode/utf8.first", "unicode/utf8.acceptRanges"], apart := false, laid := [("unicode/utf8.acceptRanges", laid_unicode_utf8_acceptRanges), ("unicode/utf8.first", laid_unicode_utf8_first)], narrowed := true }
def ColOnceUptoSaid : Prop := colOnceUptoRow.holds Tryd.pinned (OpenSpec.upto colOnceSpec)

/-- 'withylaw03.ColThree', WHERE WHAT IT READS IS OF BULK AT MOST 1048576: true; the input reads as it did. -/
def colThreeUptoRow : OpenClaim := { program := "ytjfgeppfkhaliaadoor", sum := "f161de78bddcafc95d6ead177a2dd80daa677e73f3335e98fd8512d2f8c01bf5", func := "withy/withylaw03.ColThree", spec := "colThree", inPlace := ["internal/bytealg.CountString", "internal/bytealg.IndexByteString", "internal/bytealg.IndexString", "internal/abi.NoEscape", "internal/bytealg.MakeNoZero", "internal/bytealg.abigen_runtime_cmpstring"], unfollowed := true, recurses := true, named := ["internal/bytealg.MaxLen", "unicode/utf8.first", "unicode/utf8.acceptRanges"], apart := false, laid := [("unicode/utf8.acceptRanges", laid_unicode_utf8_acceptRanges), ("unicode/utf8.first", laid_unicode_utf8_first)], narrowed := true }
def ColThreeUptoSaid : Prop := colThreeUptoRow.holds Tryd.pinned (OpenSpec.upto colThreeSpec)

/-- 'withylaw03.ColSizes', WHERE WHAT IT READS IS OF BULK AT MOST 1048576: true; the input reads as it did. -/
def colSizesUptoRow : OpenClaim := { program := "ytjfgeppfkhaliaadoor", sum := "f161de78bddcafc95d6ead177a2dd80daa677e73f3335e98fd8512d2f8c01bf5", func := "withy/withylaw03.ColSizes", spec := "colSizes", inPlace := ["internal/bytealg.CountString", "internal/bytealg.IndexByteString", "internal/bytealg.IndexString", "internal/abi.NoEscape", "internal/bytealg.MakeNoZero", "internal/bytealg.abigen_runtime_cmpstring"], unfollowed := true, recurses := true, named := ["internal/bytealg.MaxLen", "unicode/utf8.first", "unicode/utf8.acceptRanges"], apart := false, laid := [("unicode/utf8.acceptRanges", laid_unicode_utf8_acceptRanges), ("unicode/utf8.first", laid_unicode_utf8_first)], narrowed := true }
def ColSizesUptoSaid : Prop := colSizesUptoRow.holds Tryd.pinned (OpenSpec.upto colSizesSpec)

end Rows
end Go.Proofs.YtjfgeppfkhaliaaDoor
