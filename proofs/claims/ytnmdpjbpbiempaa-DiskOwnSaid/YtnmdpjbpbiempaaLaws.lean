/- What is proved here: how '<=', '>', '>=' on texts are told, for the printed walks. Conditions: none. -/
import Derived.Laws.Strings
import Derived.Laws.Small
namespace Go.Proofs.YtnmdpjbpbiempaaLaws
theorem blt_irrefl : ∀ a : List UInt8, Op.bytesLess a a = false
  | [] => rfl
  | x :: a => by
    have h : ¬ x < x := by rw [UInt8.lt_iff_toNat_lt]; omega
    simp [Op.bytesLess, blt_irrefl a, h]
theorem ble_iff : ∀ a b : List UInt8, (Op.bytesLess a b || a == b) = !(Op.bytesLess b a)
  | [], [] => rfl
  | [], y :: b => rfl
  | x :: a, [] => rfl
  | x :: a, y :: b => by
    have ih := ble_iff a b
    by_cases h : x = y
    · subst h
      have h' : ¬ x < x := by rw [UInt8.lt_iff_toNat_lt]; omega
      simp only [Op.bytesLess, h', decide_false, Bool.false_or, beq_self_eq_true, Bool.true_and, List.cons_beq_cons]
      exact ih
    · have h1 : (x == y) = false := by simpa using h
      have h2 : (y == x) = false := by simpa using fun e => h e.symm
      have h3 : (x < y) ↔ ¬ (y < x) := by
        rw [UInt8.lt_iff_toNat_lt, UInt8.lt_iff_toNat_lt]
        have : x.toNat ≠ y.toNat := fun e => h (UInt8.toNat_inj.1 e)
        omega
      simp only [Op.bytesLess, h1, h2, Bool.false_and, Bool.or_false, List.cons_beq_cons]
      by_cases h4 : y < x
      · simp [h4, h3]
      · simp [h4, h3]
theorem str_leq (t : TypeId) (a b : ByteArray) : binOp .leq t (.string a) (.string b) = pure (.bool (!(Op.bytesLess b.toList a.toList))) := by rw [← ble_iff]; simp [binOp, Op.stringOp]
theorem str_gtr (t : TypeId) (a b : ByteArray) : binOp .gtr t (.string a) (.string b) = pure (.bool (Op.bytesLess b.toList a.toList)) := by
  rw [← Bool.not_not (Op.bytesLess b.toList a.toList), ← ble_iff]; simp [binOp, Op.stringOp]
theorem str_geq (t : TypeId) (a b : ByteArray) : binOp .geq t (.string a) (.string b) = pure (.bool (!(Op.bytesLess a.toList b.toList))) := by simp [binOp, Op.stringOp]
theorem max2_str (x y : ByteArray) : Builtin.max2 (.string x) (.string y) = pure (.string (if Op.bytesLess x.toList y.toList = true then y else x)) := by
  simp only [Builtin.max2, Op.stringOp, asBool, pure_bind]
  cases Op.bytesLess x.toList y.toList <;> rfl
theorem min2_str (x y : ByteArray) : Builtin.min2 (.string x) (.string y) = pure (.string (if Op.bytesLess y.toList x.toList = true then y else x)) := by
  have h := ble_iff x.toList y.toList
  simp only [Builtin.min2, Op.stringOp, asBool, pure_bind]
  rw [h]
  cases Op.bytesLess y.toList x.toList <;> rfl
end Go.Proofs.YtnmdpjbpbiempaaLaws
