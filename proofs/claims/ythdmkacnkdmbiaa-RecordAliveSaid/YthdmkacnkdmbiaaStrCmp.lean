/- Strings are compared by '>', '<=' and '>=' as by '<' the other way round. -/
import Derived.Laws.Strings
import Derived.Tactics
set_option linter.unusedVariables false
namespace Go.Proofs.Ythdmkacnkdmbiaa
theorem less_gt : ∀ a b : List UInt8, Op.bytesLess b a = !(Op.bytesLess a b || a == b)
  | [], [] => by simp [Op.bytesLess]
  | [], y :: ys => by simp [Op.bytesLess]
  | x :: xs, [] => by simp [Op.bytesLess]
  | x :: xs, y :: ys => by
    have ih := less_gt xs ys
    simp only [Op.bytesLess]
    rw [ih]
    by_cases h : x = y
    · subst h
      simp
    · have hb : (x == y) = false := beq_eq_false_iff_ne.mpr h
      have hb2 : (y == x) = false := beq_eq_false_iff_ne.mpr (Ne.symm h)
      have hl : (x :: xs == y :: ys) = false := by simp [h]
      rw [hb, hb2, hl]
      simp only [Bool.false_and, Bool.or_false]
      have hne : x.toNat ≠ y.toNat := fun e => h (UInt8.toNat_inj.mp e)
      by_cases h1 : x < y
      · have h2 : ¬ y < x := by rw [UInt8.lt_iff_toNat_lt] at h1 ⊢; omega
        simp [h1, h2]
      · have h2 : y < x := by rw [UInt8.lt_iff_toNat_lt] at h1 ⊢; omega
        simp [h1, h2]
theorem str_gtr (t : TypeId) (a b : ByteArray) : binOp .gtr t (.string a) (.string b) = pure (.bool (Op.bytesLess b.toList a.toList)) := by
  rw [less_gt a.toList b.toList]; simp [binOp, Op.stringOp]
theorem str_leq (t : TypeId) (a b : ByteArray) : binOp .leq t (.string a) (.string b) = pure (.bool (!(Op.bytesLess b.toList a.toList))) := by
  rw [less_gt a.toList b.toList]; simp [binOp, Op.stringOp]
theorem str_geq (t : TypeId) (a b : ByteArray) : binOp .geq t (.string a) (.string b) = pure (.bool (!(Op.bytesLess a.toList b.toList))) := by simp [binOp, Op.stringOp]
end Go.Proofs.Ythdmkacnkdmbiaa
