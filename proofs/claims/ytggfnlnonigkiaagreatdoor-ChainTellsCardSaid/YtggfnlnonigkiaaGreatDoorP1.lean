/- What is proved here: for functions of the Go text, a Lean function each, and that the call comes to just what it answers. Conditions: as each contract names them. Written by wip/tools/myprint.py, a driver of the print of the kit. -/
import Derived.Test.YtggfnlnonigkiaaGreatDoorP0
import Derived.Test.YtggfnlnonigkiaaGreatDoorWAbbr
namespace Go.Proofs.YtggfnlnonigkiaaGreatDoor.P
open Go.RowKit Go.Proofs.YtggfnlnonigkiaaGreatDoorW.PrintWords Go.Proofs.YtggfnlnonigkiaaGreatDoorW.PrintLast Go.Proofs.YtggfnlnonigkiaaGreatDoorW.PrintMore Go.Proofs.YtggfnlnonigkiaaGreatDoorW.Abbr
-- PACKED
attribute [local go_sem] max2_int min2_int max_two min_two max_three min_three max_four min_four Go.Proofs.YtggfnlnonigkiaaGreatDoorLaws.str_leq Go.Proofs.YtggfnlnonigkiaaGreatDoorLaws.str_gtr Go.Proofs.YtggfnlnonigkiaaGreatDoorLaws.str_geq Go.Proofs.YtggfnlnonigkiaaGreatDoorLaws.max2_str Go.Proofs.YtggfnlnonigkiaaGreatDoorLaws.min2_str   -- for this text's walks alone
set_option linter.unusedVariables false
set_option linter.unusedSimpArgs false

theorem eqA23 (d : Nat) (w : World) (x0 y0 : Int) (x1 y1 : Int) (x2 y2 : ByteArray) :
  (Op.equalIn (d + 2) 23 (.agg #[.int .i64 x0, .int .i64 x1, .string x2]) (.agg #[.int .i64 y0, .int .i64 y1, .string y2])).run Tryz.prog w = .ok (x0 == y0 && (x1 == y1 && (x2.toList == y2.toList))) w := by
 refine eqA_of Tryz.underlying23 (by kernel_rfl) ?_
 refine eqf_cons (by rfl) (by go_simp; rfl) (by go_simp; rfl) (by go_simp) ?_
 refine eqf_cons (by rfl) (by go_simp; rfl) (by go_simp; rfl) (by go_simp) ?_
 exact eqf_last (by rfl) (by go_simp; rfl) (by go_simp; rfl) (by go_simp)
end Go.Proofs.YtggfnlnonigkiaaGreatDoor.P
