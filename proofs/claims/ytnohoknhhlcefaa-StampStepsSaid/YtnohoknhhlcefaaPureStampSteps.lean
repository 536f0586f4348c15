/- The next one, the one ahead, and a later one: the law StampSteps, its pure statement. -/
import Derived.Test.YtnohoknhhlcefaaPStampStepsx
set_option linter.unusedVariables false
set_option linter.unusedSimpArgs false
namespace Go.Proofs.Ytnohoknhhlcefaa.Pure
open Go.RowKit Go.Proofs.Ytnohoknhhlcefaa.PStampSteps Go.Proofs.YtnohoknhhlcefaaW.PrintWords Go.Proofs.YtnohoknhhlcefaaW.PrintLast Go.Proofs.YtnohoknhhlcefaaW.PrintMore
theorem more_rounds {α : Type} {f : Nat → Option α} (h : ∀ k, LeO (f k) (f (k + 1))) {j k : Nat} (hjk : j ≤ k) {r : α} (e : f j = some r) : f k = some r := by
  induction k with
  | zero => obtain rfl : j = 0 := by omega
            exact e
  | succ k ih =>
    by_cases hj : j = k + 1
    · subst hj; exact e
    · exact h k r (ih (by omega))

theorem awake_f (k : Nat) (hk : 20 ≤ k) : scriptoriumlaw05_awake.f k = some true := more_rounds scriptoriumlaw05_awake.mono hk (by decide +kernel)

theorem check_cases (a b : Int) : (stamp_Check.f a b = some 9) ∨ (stamp_Check.f a b = some 0 ∧ 0 ≤ a ∧ a ≤ 1099511627776 ∧ 0 ≤ b ∧ b ≤ 1048575) := by
  unfold stamp_Check.f
  by_cases h1 : a < 0
  · rw [if_pos h1]; exact .inl rfl
  · rw [if_neg h1]
    by_cases h2 : a > 1099511627776
    · rw [if_pos h2]; exact .inl rfl
    · rw [if_neg h2]
      by_cases h3 : b < 0
      · rw [if_pos h3]; exact .inl rfl
      · rw [if_neg h3]
        by_cases h4 : b > 1048575
        · rw [if_pos h4]; exact .inl rfl
        · rw [if_neg h4]
          exact .inr ⟨rfl, by omega, by omega, by omega, by omega⟩

theorem next_eq (a b : Int) : ∃ x y e, stamp_Next.f a b = some (x, y, e) ∧ scriptoriumref05_Next.f a b = some (x, y, e) := by
  have e : scriptoriumref05_Check.f a b = stamp_Check.f a b := rfl
  unfold stamp_Next.f scriptoriumref05_Next.f
  rcases check_cases a b with h | ⟨h, h1, h2, h3, h4⟩
  · rw [e, h]
    exact ⟨0, 0, 9, rfl, rfl⟩
  · rw [e, h]
    simp only [Option.bind_some, if_true]
    by_cases c1 : b < 1048575
    · have c2 : (a == 1099511627776 && (b == 1048575)) = false := by simp; omega
      rw [if_pos c1, c2, if_neg (by simp), if_neg (by omega)]
      exact ⟨_, _, _, rfl, rfl⟩
    · rw [if_neg c1]
      have c3 : b = 1048575 := by omega
      by_cases c4 : a < 1099511627776
      · have c2 : (a == 1099511627776 && (b == 1048575)) = false := by simp; omega
        rw [if_pos c4, c2, if_neg (by simp), if_pos c3]
        exact ⟨_, _, _, rfl, rfl⟩
      · have c2 : (a == 1099511627776 && (b == 1048575)) = true := by simp; omega
        rw [if_neg c4, if_pos c2]
        exact ⟨_, _, _, rfl, rfl⟩
theorem prev_eq (a b : Int) : ∃ x y e, stamp_Prev.f a b = some (x, y, e) ∧ scriptoriumref05_Prev.f a b = some (x, y, e) := by
  have e : scriptoriumref05_Check.f a b = stamp_Check.f a b := rfl
  unfold stamp_Prev.f scriptoriumref05_Prev.f
  rcases check_cases a b with h | ⟨h, h1, h2, h3, h4⟩
  · rw [e, h]
    exact ⟨0, 0, 9, rfl, rfl⟩
  · rw [e, h]
    simp only [Option.bind_some, if_true]
    by_cases c1 : b > 0
    · have c2 : (a == 0 && (b == 0)) = false := by simp; omega
      rw [if_pos c1, c2, if_neg (by simp), if_neg (by omega)]
      exact ⟨_, _, _, rfl, rfl⟩
    · rw [if_neg c1]
      have c3 : b = 0 := by omega
      by_cases c4 : a > 0
      · have c2 : (a == 0 && (b == 0)) = false := by simp; omega
        rw [if_pos c4, c2, if_neg (by simp), if_pos c3]
        exact ⟨_, _, _, rfl, rfl⟩
      · have c2 : (a == 0 && (b == 0)) = true := by simp; omega
        rw [if_neg c4, if_pos c2]
        exact ⟨_, _, _, rfl, rfl⟩
theorem later_eq (k : Nat) (a b w : Int) (hk : 0 < k) : ∃ x y e, stamp_Later.f a b w = some (x, y, e) ∧ scriptoriumref05_Later.f k a b w = some (x, y, e) := by
  obtain ⟨k, rfl⟩ : ∃ j, k = j + 1 := ⟨k - 1, by omega⟩
  have e : scriptoriumref05_Check.f a b = stamp_Check.f a b := rfl
  unfold stamp_Later.f scriptoriumref05_Later.f
  rcases check_cases a b with h | ⟨h, h1, h2, h3, h4⟩
  · rw [e, h]
    exact ⟨0, 0, 9, rfl, rfl⟩
  · rw [e, h]
    simp only [Option.bind_some, if_true, scriptoriumref05_Later.j0]
    by_cases c1 : w < 0
    · rw [if_pos c1, decide_eq_true c1, if_pos rfl]
      exact ⟨_, _, _, rfl, rfl⟩
    · rw [if_neg c1, decide_eq_false c1, if_neg (show ¬ (false = true) by simp)]
      by_cases c2 : w > wrap64 (1099511627776 - a)
      · rw [if_pos c2]
        exact ⟨_, _, _, rfl, rfl⟩
      · rw [if_neg c2]
        exact ⟨_, _, _, rfl, rfl⟩

theorem StampSteps : scriptoriumlaw05_StampSteps.Pure := by
  intro s wall _ _
  refine ⟨20, ?_⟩
  unfold scriptoriumlaw05_StampSteps.f
  obtain ⟨x0, x1, x2, h1, h2⟩ := next_eq s.f0 s.f1
  obtain ⟨y0, y1, y2, h3, h4⟩ := prev_eq s.f0 s.f1
  obtain ⟨z0, z1, z2, h5, h6⟩ := later_eq 20 s.f0 s.f1 wall (by omega)
  rw [h1, h2, h3, h4, h5, h6, awake_f 20 (by omega)]
  simp

end Go.Proofs.Ytnohoknhhlcefaa.Pure
