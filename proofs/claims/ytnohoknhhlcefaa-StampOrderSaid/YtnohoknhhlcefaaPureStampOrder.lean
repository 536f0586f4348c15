/- Less is an order: the law StampOrder, its pure statement. -/
import Derived.Test.YtnohoknhhlcefaaPStampOrderx
set_option linter.unusedVariables false
set_option linter.unusedSimpArgs false
namespace Go.Proofs.Ytnohoknhhlcefaa.Pure
open Go.RowKit Go.Proofs.Ytnohoknhhlcefaa.PStampOrder Go.Proofs.YtnohoknhhlcefaaW.PrintWords Go.Proofs.YtnohoknhhlcefaaW.PrintLast Go.Proofs.YtnohoknhhlcefaaW.PrintMore
theorem more_rounds {α : Type} {f : Nat → Option α} (h : ∀ k, LeO (f k) (f (k + 1))) {j k : Nat} (hjk : j ≤ k) {r : α} (e : f j = some r) : f k = some r := by
  induction k with
  | zero => obtain rfl : j = 0 := by omega
            exact e
  | succ k ih =>
    by_cases hj : j = k + 1
    · subst hj; exact e
    · exact h k r (ih (by omega))

/-- Is one stamp less than another one? -/
def ltS (a0 a1 b0 b1 : Int) : Bool := decide (a0 < b0) || (decide (a0 = b0) && decide (a1 < b1))
def cmp3 (a b : Int) : Int := if a < b then -1 else if a > b then 1 else 0
theorem compare_f (a b : Int) : cmp_Compare_int.f a b = some (cmp3 a b) := by
  unfold cmp_Compare_int.f cmp_isNaN_int.f cmp3
  simp only [Option.bind_some, bne_self_eq_false, Bool.false_eq_true, if_false]
  split
  · rfl
  · split <;> rfl
theorem or_f (k : Nat) (x y : Int) (hk : 5 < k) : cmp_Or_int.f k [x, y] = some (if x = 0 then y else x) := by
  obtain ⟨k, rfl⟩ : ∃ j, k = j + 3 := ⟨k - 3, by omega⟩
  have r0 : rd [x, y] 0 = x := rfl
  have r1 : rd [x, y] 1 = y := rfl
  have w0 : wrap64 (0 + 1) = 1 := by unfold wrap64; omega
  have w1 : wrap64 (1 + 1) = 2 := by unfold wrap64; omega
  have l2 : (([x, y] : List Int).length : Int) = 2 := rfl
  unfold cmp_Or_int.f
  rw [l2]
  simp only [cmp_Or_int.l0]
  rw [if_pos (by decide), if_pos (by decide), l2, if_pos (by decide), r0, w0]
  by_cases h : x = 0
  · rw [if_pos h, if_pos h, if_pos (by decide), if_pos (by decide), if_pos (by decide), r1, w1]
    by_cases h2 : y = 0
    · rw [if_pos h2, if_neg (by decide), h2]
    · rw [if_neg h2]
  · rw [if_neg h, if_neg h]
theorem stampcmp_f (k : Nat) (a0 a1 b0 b1 : Int) (hk : 5 < k) : stamp_compare.f k a0 a1 b0 b1 = some (if cmp3 a0 b0 = 0 then cmp3 a1 b1 else cmp3 a0 b0) := by
  unfold stamp_compare.f
  rw [compare_f, compare_f]
  simp only [Option.bind_some]
  rw [or_f k _ _ hk]
  rfl
theorem less_f (k : Nat) (a0 a1 b0 b1 : Int) (hk : 5 < k) : stamp_Less.f k a0 a1 b0 b1 = some (ltS a0 a1 b0 b1) := by
  unfold stamp_Less.f
  rw [stampcmp_f k a0 a1 b0 b1 hk]
  simp only [Option.bind_some]
  congr 1
  have e : (if cmp3 a0 b0 = 0 then cmp3 a1 b1 else cmp3 a0 b0) < 0 ↔ a0 < b0 ∨ (a0 = b0 ∧ a1 < b1) := by
    unfold cmp3
    repeat' split
    all_goals omega
  unfold ltS
  rw [Bool.eq_iff_iff]
  simp only [decide_eq_true_eq, Bool.or_eq_true, Bool.and_eq_true]
  exact e

theorem awake_f (k : Nat) (hk : 20 ≤ k) : scriptoriumlaw05_awake.f k = some true := more_rounds scriptoriumlaw05_awake.mono hk (by decide +kernel)

theorem lt_iff (a0 a1 b0 b1 : Int) : ltS a0 a1 b0 b1 = true ↔ a0 < b0 ∨ (a0 = b0 ∧ a1 < b1) := by
  unfold ltS
  simp only [decide_eq_true_eq, Bool.or_eq_true, Bool.and_eq_true]
theorem lt_not (a0 a1 b0 b1 : Int) : ltS a0 a1 b0 b1 = false ↔ ¬ (a0 < b0 ∨ (a0 = b0 ∧ a1 < b1)) := by
  rw [← lt_iff]
  cases ltS a0 a1 b0 b1 <;> simp
theorem StampOrder : scriptoriumlaw05_StampOrder.Pure := by
  intro a b c _ _ _
  refine ⟨20, ?_⟩
  unfold scriptoriumlaw05_StampOrder.f
  rw [less_f 20 _ _ _ _ (by omega), less_f 20 _ _ _ _ (by omega), less_f 20 _ _ _ _ (by omega), less_f 20 _ _ _ _ (by omega), awake_f 20 (by omega)]
  simp only [Option.bind_some]
  obtain ⟨e, he⟩ : ∃ e, e = (a.f0 == b.f0 && (a.f1 == b.f1)) := ⟨_, rfl⟩
  have hn : (!(a.f0 == b.f0) || (!(a.f1 == b.f1))) = !e := by rw [he, Bool.not_and]
  have q1 : e = true → ltS a.f0 a.f1 b.f0 b.f1 = false ∧ ltS b.f0 b.f1 a.f0 a.f1 = false := by
    intro h
    rw [he] at h
    simp only [Bool.and_eq_true, beq_iff_eq] at h
    rw [lt_not, lt_not]
    omega
  have q2 : e = false → ltS a.f0 a.f1 b.f0 b.f1 = !ltS b.f0 b.f1 a.f0 a.f1 := by
    intro h
    rw [he] at h
    simp only [Bool.and_eq_false_iff, beq_eq_false_iff_ne] at h
    cases h1 : ltS b.f0 b.f1 a.f0 a.f1
    · rw [lt_not] at h1
      show _ = true
      rw [lt_iff]
      omega
    · rw [lt_iff] at h1
      show _ = false
      rw [lt_not]
      omega
  have q3 : ltS a.f0 a.f1 b.f0 b.f1 = true → ltS b.f0 b.f1 c.f0 c.f1 = true → ltS a.f0 a.f1 c.f0 c.f1 = true := by
    rw [lt_iff, lt_iff, lt_iff]
    omega
  have q4 : ltS a.f0 a.f1 b.f0 b.f1 = false → ltS b.f0 b.f1 c.f0 c.f1 = false → ltS a.f0 a.f1 c.f0 c.f1 = false := by
    rw [lt_not, lt_not, lt_not]
    omega
  rw [hn, ← he]
  clear he hn
  generalize ltS a.f0 a.f1 b.f0 b.f1 = p at *
  generalize ltS b.f0 b.f1 a.f0 a.f1 = q at *
  generalize ltS b.f0 b.f1 c.f0 c.f1 = r at *
  generalize ltS a.f0 a.f1 c.f0 c.f1 = s at *
  revert p q r s e
  decide

end Go.Proofs.Ytnohoknhhlcefaa.Pure
