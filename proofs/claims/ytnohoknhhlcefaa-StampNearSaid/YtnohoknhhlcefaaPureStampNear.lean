/- Between a stamp and its Next there is none: the law StampNear, its pure statement. -/
import Derived.Test.YtnohoknhhlcefaaPStampNearx
set_option linter.unusedVariables false
set_option linter.unusedSimpArgs false
namespace Go.Proofs.Ytnohoknhhlcefaa.Pure
open Go.RowKit Go.Proofs.Ytnohoknhhlcefaa.PStampNear Go.Proofs.YtnohoknhhlcefaaW.PrintWords Go.Proofs.YtnohoknhhlcefaaW.PrintLast Go.Proofs.YtnohoknhhlcefaaW.PrintMore
theorem more_rounds {α : Type} {f : Nat → Option α} (h : ∀ k, LeO (f k) (f (k + 1))) {j k : Nat} (hjk : j ≤ k) {r : α} (e : f j = some r) : f k = some r := by
  induction k with
  | zero => obtain rfl : j = 0 := by omega
            exact e
  | succ k ih =>
    by_cases hj : j = k + 1
    · subst hj; exact e
    · exact h k r (ih (by omega))

theorem check_cases (a b : Int) : (stamp_Check.f a b = some 9) ∨ (stamp_Check.f a b = some 0 ∧ 0 ≤ a ∧ a ≤ 1099511627776 ∧ 0 ≤ b ∧ b ≤ 1048575) := by
  unfold stamp_Check.f
  by_cases h1 : a < 0
  · rw [if_pos h1]; exact .inl rfl
  · rw [if_neg h1]
    by_cases h2 : a > 1099511627776
    · rw [if_pos h2]; exact .inl rfl
    · rw [if_neg h2]
      by_cases h3 : b < 0
      · rw [if_pos h3]; exact .inl rfl
      · rw [if_neg h3]
        by_cases h4 : b > 1048575
        · rw [if_pos h4]; exact .inl rfl
        · rw [if_neg h4]
          exact .inr ⟨rfl, by omega, by omega, by omega, by omega⟩

/-- Is one stamp less than another one? -/
def ltS (a0 a1 b0 b1 : Int) : Bool := decide (a0 < b0) || (decide (a0 = b0) && decide (a1 < b1))
def cmp3 (a b : Int) : Int := if a < b then -1 else if a > b then 1 else 0
theorem compare_f (a b : Int) : cmp_Compare_int.f a b = some (cmp3 a b) := by
  unfold cmp_Compare_int.f cmp_isNaN_int.f cmp3
  simp only [Option.bind_some, bne_self_eq_false, Bool.false_eq_true, if_false]
  split
  · rfl
  · split <;> rfl
theorem or_f (k : Nat) (x y : Int) (hk : 5 < k) : cmp_Or_int.f k [x, y] = some (if x = 0 then y else x) := by
  obtain ⟨k, rfl⟩ : ∃ j, k = j + 3 := ⟨k - 3, by omega⟩
  have r0 : rd [x, y] 0 = x := rfl
  have r1 : rd [x, y] 1 = y := rfl
  have w0 : wrap64 (0 + 1) = 1 := by unfold wrap64; omega
  have w1 : wrap64 (1 + 1) = 2 := by unfold wrap64; omega
  have l2 : (([x, y] : List Int).length : Int) = 2 := rfl
  unfold cmp_Or_int.f
  rw [l2]
  simp only [cmp_Or_int.l0]
  rw [if_pos (by decide), if_pos (by decide), l2, if_pos (by decide), r0, w0]
  by_cases h : x = 0
  · rw [if_pos h, if_pos h, if_pos (by decide), if_pos (by decide), if_pos (by decide), r1, w1]
    by_cases h2 : y = 0
    · rw [if_pos h2, if_neg (by decide), h2]
    · rw [if_neg h2]
  · rw [if_neg h, if_neg h]
theorem stampcmp_f (k : Nat) (a0 a1 b0 b1 : Int) (hk : 5 < k) : stamp_compare.f k a0 a1 b0 b1 = some (if cmp3 a0 b0 = 0 then cmp3 a1 b1 else cmp3 a0 b0) := by
  unfold stamp_compare.f
  rw [compare_f, compare_f]
  simp only [Option.bind_some]
  rw [or_f k _ _ hk]
  rfl
theorem less_f (k : Nat) (a0 a1 b0 b1 : Int) (hk : 5 < k) : stamp_Less.f k a0 a1 b0 b1 = some (ltS a0 a1 b0 b1) := by
  unfold stamp_Less.f
  rw [stampcmp_f k a0 a1 b0 b1 hk]
  simp only [Option.bind_some]
  congr 1
  have e : (if cmp3 a0 b0 = 0 then cmp3 a1 b1 else cmp3 a0 b0) < 0 ↔ a0 < b0 ∨ (a0 = b0 ∧ a1 < b1) := by
    unfold cmp3
    repeat' split
    all_goals omega
  unfold ltS
  rw [Bool.eq_iff_iff]
  simp only [decide_eq_true_eq, Bool.or_eq_true, Bool.and_eq_true]
  exact e

theorem bring_some (a n : Int) (h : 0 < n) (hn : n ≤ 4611686018427387904) : ∃ r, scriptoriumref00_Bring.f a n = some r ∧ 0 ≤ r ∧ r < n := by
  unfold scriptoriumref00_Bring.f
  have h1 := Int.tmod_lt_of_pos a h
  have h2 : -n < Int.tmod a n := by
    have := Int.lt_tmod_of_pos a h
    omega
  rw [if_neg (by omega), if_neg (by omega)]
  by_cases h3 : Int.tmod a n < 0
  · rw [if_pos h3]
    refine ⟨_, rfl, ?_⟩
    have : RowKit.wrap64 (Int.tmod a n + n) = Int.tmod a n + n := by unfold RowKit.wrap64; omega
    rw [this]
    omega
  · rw [if_neg h3]
    exact ⟨_, rfl, by omega, by omega⟩

theorem awake_f (k : Nat) (hk : 20 ≤ k) : scriptoriumlaw05_awake.f k = some true := more_rounds scriptoriumlaw05_awake.mono hk (by decide +kernel)

theorem lt_iff (a0 a1 b0 b1 : Int) : ltS a0 a1 b0 b1 = true ↔ a0 < b0 ∨ (a0 = b0 ∧ a1 < b1) := by
  unfold ltS
  simp only [decide_eq_true_eq, Bool.or_eq_true, Bool.and_eq_true]
theorem lt_not (a0 a1 b0 b1 : Int) : ltS a0 a1 b0 b1 = false ↔ ¬ (a0 < b0 ∨ (a0 = b0 ∧ a1 < b1)) := by
  rw [← lt_iff]
  cases ltS a0 a1 b0 b1 <;> simp
theorem check_ok (a b : Int) (h1 : 0 ≤ a) (h2 : a ≤ 1099511627776) (h3 : 0 ≤ b) (h4 : b ≤ 1048575) : stamp_Check.f a b = some 0 := by
  unfold stamp_Check.f
  rw [if_neg (by omega), if_neg (by omega), if_neg (by omega), if_neg (by omega)]
theorem w64 (x : Int) (h0 : -9223372036854775808 ≤ x) (h1 : x < 9223372036854775808) : wrap64 x = x := by unfold wrap64; omega
theorem near_ok (k : Nat) (hk : 20 ≤ k) (a0 a1 b0 b1 x0 x1 y0 y1 n0 n1 : Int) (hx : scriptoriumlaw05_bring.f a0 a1 = some (x0, x1)) (hy : scriptoriumlaw05_bring.f b0 b1 = some (y0, y1))
    (hn : stamp_Next.f x0 x1 = some (n0, n1, 0)) (hp : stamp_Prev.f n0 n1 = some (x0, x1, 0)) (hc : stamp_Check.f n0 n1 = some 0) (hl : ltS x0 x1 n0 n1 = true)
    (h1 : ltS x0 x1 y0 y1 = true → ltS y0 y1 n0 n1 = false) (h2 : ltS x0 x1 y0 y1 = false → ltS y0 y1 n0 n1 = true) : scriptoriumlaw05_StampNear.f (k + 1) a0 a1 b0 b1 = some true := by
  unfold scriptoriumlaw05_StampNear.f
  rw [hx, Option.bind_some, hy, Option.bind_some]
  dsimp only
  rw [hn, Option.bind_some]
  dsimp only
  rw [if_pos rfl, hp, Option.bind_some, less_f (k + 1) _ _ _ _ (by omega), less_f (k + 1) _ _ _ _ (by omega), Option.bind_some, Option.bind_some]
  dsimp only
  unfold scriptoriumlaw05_StampNear.j0
  simp only [hc, less_f k _ _ _ _ (show 5 < k by omega), awake_f k hk, hl, Option.bind_some, if_true, beq_self_eq_true, Bool.and_self]
  cases hxy : ltS x0 x1 y0 y1
  · rw [h2 hxy]
    rfl
  · rw [h1 hxy]
    rfl
theorem StampNear : scriptoriumlaw05_StampNear.Pure := by
  intro a b _ _
  refine ⟨21, ?_⟩
  obtain ⟨x0, hx0, p1, p2⟩ := bring_some a.f0 1099511627777 (by omega) (by omega)
  obtain ⟨x1, hx1, p3, p4⟩ := bring_some a.f1 1048576 (by omega) (by omega)
  obtain ⟨y0, hy0, q1, q2⟩ := bring_some b.f0 1099511627777 (by omega) (by omega)
  obtain ⟨y1, hy1, q3, q4⟩ := bring_some b.f1 1048576 (by omega) (by omega)
  have hx : scriptoriumlaw05_bring.f a.f0 a.f1 = some (x0, x1) := by
    unfold scriptoriumlaw05_bring.f
    rw [hx0, hx1]
    rfl
  have hy : scriptoriumlaw05_bring.f b.f0 b.f1 = some (y0, y1) := by
    unfold scriptoriumlaw05_bring.f
    rw [hy0, hy1]
    rfl
  have hcx := check_ok x0 x1 p1 (by omega) p3 (by omega)
  by_cases c1 : x0 = 1099511627776 ∧ x1 = 1048575
  · obtain ⟨rfl, rfl⟩ := c1
    have hn : stamp_Next.f 1099511627776 1048575 = some (0, 0, 5) := rfl
    have hl : ltS 1099511627776 1048575 y0 y1 = false := by rw [lt_not]; omega
    unfold scriptoriumlaw05_StampNear.f
    rw [hx, Option.bind_some, hy, Option.bind_some]
    dsimp only
    rw [hn, Option.bind_some]
    dsimp only
    rw [if_neg (by decide), if_pos rfl, if_pos (by decide), less_f 21 _ _ _ _ (by omega), hl, awake_f 21 (by omega)]
    rfl
  · have hnb : (x0 == 1099511627776 && (x1 == 1048575)) = false := by
      cases hb : (x0 == 1099511627776 && (x1 == 1048575))
      · rfl
      · simp only [Bool.and_eq_true, beq_iff_eq] at hb
        exact absurd hb c1
    by_cases c2 : x1 = 1048575
    · subst c2
      have hw : wrap64 (x0 + 1) = x0 + 1 := w64 _ (by omega) (by omega)
      have hw2 : wrap64 (x0 + 1 - 1) = x0 := by rw [w64 _ (by omega) (by omega)]; omega
      refine near_ok 20 (by omega) _ _ _ _ x0 1048575 y0 y1 (x0 + 1) 0 hx hy ?_ ?_ (check_ok _ _ (by omega) (by omega) (by omega) (by omega)) ?_ ?_ ?_
      · unfold stamp_Next.f
        rw [hcx, Option.bind_some, if_pos rfl, hnb, if_neg (by simp), if_pos rfl, hw]
      · have hb : ((x0 + 1) == 0 && ((0 : Int) == 0)) = false := by
          have : (x0 + 1 == 0) = false := beq_eq_false_iff_ne.mpr (by omega)
          rw [this]; rfl
        unfold stamp_Prev.f
        rw [check_ok (x0 + 1) 0 (by omega) (by omega) (by omega) (by omega), Option.bind_some, if_pos rfl, hb, if_neg (by simp), if_pos rfl, hw2]
      · rw [lt_iff]; omega
      · rw [lt_iff, lt_not]; omega
      · rw [lt_iff, lt_not]; omega
    · have hw : wrap64 (x1 + 1) = x1 + 1 := w64 _ (by omega) (by omega)
      have hw2 : wrap64 (x1 + 1 - 1) = x1 := by rw [w64 _ (by omega) (by omega)]; omega
      refine near_ok 20 (by omega) _ _ _ _ x0 x1 y0 y1 x0 (x1 + 1) hx hy ?_ ?_ (check_ok _ _ (by omega) (by omega) (by omega) (by omega)) ?_ ?_ ?_
      · unfold stamp_Next.f
        rw [hcx, Option.bind_some, if_pos rfl, hnb, if_neg (by simp), if_neg c2, hw]
      · have hb : (x0 == 0 && ((x1 + 1) == 0)) = false := by
          have : (x1 + 1 == 0) = false := beq_eq_false_iff_ne.mpr (by omega)
          rw [this]; cases (x0 == 0) <;> rfl
        unfold stamp_Prev.f
        rw [check_ok x0 (x1 + 1) (by omega) (by omega) (by omega) (by omega), Option.bind_some, if_pos rfl, hb, if_neg (by simp), if_neg (by omega), hw2]
      · rw [lt_iff]; omega
      · rw [lt_iff, lt_not]; omega
      · rw [lt_iff, lt_not]; omega

end Go.Proofs.Ytnohoknhhlcefaa.Pure
