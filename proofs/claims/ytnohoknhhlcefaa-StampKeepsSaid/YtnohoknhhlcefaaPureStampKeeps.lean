/- Later keeps the order, and two of them add up: the law StampKeeps, its pure statement. -/
import Derived.Test.YtnohoknhhlcefaaPStampKeepsx
set_option linter.unusedVariables false
set_option linter.unusedSimpArgs false
namespace Go.Proofs.Ytnohoknhhlcefaa.Pure
open Go.RowKit Go.Proofs.Ytnohoknhhlcefaa.PStampKeeps Go.Proofs.YtnohoknhhlcefaaW.PrintWords Go.Proofs.YtnohoknhhlcefaaW.PrintLast Go.Proofs.YtnohoknhhlcefaaW.PrintMore
theorem more_rounds {α : Type} {f : Nat → Option α} (h : ∀ k, LeO (f k) (f (k + 1))) {j k : Nat} (hjk : j ≤ k) {r : α} (e : f j = some r) : f k = some r := by
  induction k with
  | zero => obtain rfl : j = 0 := by omega
            exact e
  | succ k ih =>
    by_cases hj : j = k + 1
    · subst hj; exact e
    · exact h k r (ih (by omega))

theorem check_cases (a b : Int) : (stamp_Check.f a b = some 9) ∨ (stamp_Check.f a b = some 0 ∧ 0 ≤ a ∧ a ≤ 1099511627776 ∧ 0 ≤ b ∧ b ≤ 1048575) := by
  unfold stamp_Check.f
  by_cases h1 : a < 0
  · rw [if_pos h1]; exact .inl rfl
  · rw [if_neg h1]
    by_cases h2 : a > 1099511627776
    · rw [if_pos h2]; exact .inl rfl
    · rw [if_neg h2]
      by_cases h3 : b < 0
      · rw [if_pos h3]; exact .inl rfl
      · rw [if_neg h3]
        by_cases h4 : b > 1048575
        · rw [if_pos h4]; exact .inl rfl
        · rw [if_neg h4]
          exact .inr ⟨rfl, by omega, by omega, by omega, by omega⟩

/-- Is one stamp less than another one? -/
def ltS (a0 a1 b0 b1 : Int) : Bool := decide (a0 < b0) || (decide (a0 = b0) && decide (a1 < b1))
def cmp3 (a b : Int) : Int := if a < b then -1 else if a > b then 1 else 0
theorem compare_f (a b : Int) : cmp_Compare_int.f a b = some (cmp3 a b) := by
  unfold cmp_Compare_int.f cmp_isNaN_int.f cmp3
  simp only [Option.bind_some, bne_self_eq_false, Bool.false_eq_true, if_false]
  split
  · rfl
  · split <;> rfl
theorem or_f (k : Nat) (x y : Int) (hk : 5 < k) : cmp_Or_int.f k [x, y] = some (if x = 0 then y else x) := by
  obtain ⟨k, rfl⟩ : ∃ j, k = j + 3 := ⟨k - 3, by omega⟩
  have r0 : rd [x, y] 0 = x := rfl
  have r1 : rd [x, y] 1 = y := rfl
  have w0 : wrap64 (0 + 1) = 1 := by unfold wrap64; omega
  have w1 : wrap64 (1 + 1) = 2 := by unfold wrap64; omega
  have l2 : (([x, y] : List Int).length : Int) = 2 := rfl
  unfold cmp_Or_int.f
  rw [l2]
  simp only [cmp_Or_int.l0]
  rw [if_pos (by decide), if_pos (by decide), l2, if_pos (by decide), r0, w0]
  by_cases h : x = 0
  · rw [if_pos h, if_pos h, if_pos (by decide), if_pos (by decide), if_pos (by decide), r1, w1]
    by_cases h2 : y = 0
    · rw [if_pos h2, if_neg (by decide), h2]
    · rw [if_neg h2]
  · rw [if_neg h, if_neg h]
theorem stampcmp_f (k : Nat) (a0 a1 b0 b1 : Int) (hk : 5 < k) : stamp_compare.f k a0 a1 b0 b1 = some (if cmp3 a0 b0 = 0 then cmp3 a1 b1 else cmp3 a0 b0) := by
  unfold stamp_compare.f
  rw [compare_f, compare_f]
  simp only [Option.bind_some]
  rw [or_f k _ _ hk]
  rfl
theorem less_f (k : Nat) (a0 a1 b0 b1 : Int) (hk : 5 < k) : stamp_Less.f k a0 a1 b0 b1 = some (ltS a0 a1 b0 b1) := by
  unfold stamp_Less.f
  rw [stampcmp_f k a0 a1 b0 b1 hk]
  simp only [Option.bind_some]
  congr 1
  have e : (if cmp3 a0 b0 = 0 then cmp3 a1 b1 else cmp3 a0 b0) < 0 ↔ a0 < b0 ∨ (a0 = b0 ∧ a1 < b1) := by
    unfold cmp3
    repeat' split
    all_goals omega
  unfold ltS
  rw [Bool.eq_iff_iff]
  simp only [decide_eq_true_eq, Bool.or_eq_true, Bool.and_eq_true]
  exact e

theorem bring_some (a n : Int) (h : 0 < n) (hn : n ≤ 4611686018427387904) : ∃ r, scriptoriumref00_Bring.f a n = some r ∧ 0 ≤ r ∧ r < n := by
  unfold scriptoriumref00_Bring.f
  have h1 := Int.tmod_lt_of_pos a h
  have h2 : -n < Int.tmod a n := by
    have := Int.lt_tmod_of_pos a h
    omega
  rw [if_neg (by omega), if_neg (by omega)]
  by_cases h3 : Int.tmod a n < 0
  · rw [if_pos h3]
    refine ⟨_, rfl, ?_⟩
    have : RowKit.wrap64 (Int.tmod a n + n) = Int.tmod a n + n := by unfold RowKit.wrap64; omega
    rw [this]
    omega
  · rw [if_neg h3]
    exact ⟨_, rfl, by omega, by omega⟩

theorem awake_f (k : Nat) (hk : 20 ≤ k) : scriptoriumlaw05_awake.f k = some true := more_rounds scriptoriumlaw05_awake.mono hk (by decide +kernel)

theorem lt_iff (a0 a1 b0 b1 : Int) : ltS a0 a1 b0 b1 = true ↔ a0 < b0 ∨ (a0 = b0 ∧ a1 < b1) := by
  unfold ltS
  simp only [decide_eq_true_eq, Bool.or_eq_true, Bool.and_eq_true]
theorem check_ok (a b : Int) (h1 : 0 ≤ a) (h2 : a ≤ 1099511627776) (h3 : 0 ≤ b) (h4 : b ≤ 1048575) : stamp_Check.f a b = some 0 := by
  unfold stamp_Check.f
  rw [if_neg (by omega), if_neg (by omega), if_neg (by omega), if_neg (by omega)]
theorem w64 (x : Int) (h0 : -9223372036854775808 ≤ x) (h1 : x < 9223372036854775808) : wrap64 x = x := by unfold wrap64; omega
theorem later_yes (a b w : Int) (h1 : 0 ≤ a) (h2 : a ≤ 1099511627776) (h3 : 0 ≤ b) (h4 : b ≤ 1048575) (h5 : 0 ≤ w) (h6 : w ≤ 1099511627776 - a) : stamp_Later.f a b w = some (a + w, b, 0) := by
  unfold stamp_Later.f
  rw [check_ok a b h1 h2 h3 h4, Option.bind_some, if_pos rfl, if_neg (by omega), w64 _ (by omega) (by omega), if_neg (by omega), w64 _ (by omega) (by omega)]
theorem later_no (a b w : Int) (h1 : 0 ≤ a) (h2 : a ≤ 1099511627776) (h3 : 0 ≤ b) (h4 : b ≤ 1048575) (h5 : 0 ≤ w) (h6 : 1099511627776 - a < w) : stamp_Later.f a b w = some (0, 0, 5) := by
  unfold stamp_Later.f
  rw [check_ok a b h1 h2 h3 h4, Option.bind_some, if_pos rfl, if_neg (by omega), w64 _ (by omega) (by omega), if_pos (by omega)]
theorem tail_yes (k : Nat) (hk : 20 ≤ k) (x0 x1 i j : Int) (h1 : 0 ≤ x0) (h2 : x0 ≤ 1099511627776) (h3 : 0 ≤ x1) (h4 : x1 ≤ 1048575) (hi : 0 ≤ i) (hi2 : i < 274877906944) (hj : 0 ≤ j) (hj2 : j < 274877906944) (h : i ≤ 1099511627776 - x0) :
    scriptoriumlaw05_StampKeeps.j0 (k + 1) i j 0 false x0 x1 (x0 + i) x1 = some true := by
  unfold scriptoriumlaw05_StampKeeps.j0
  dsimp only
  rw [if_neg (by simp), w64 _ (by omega) (by omega)]
  by_cases c : i + j ≤ 1099511627776 - x0
  · have e : x0 + (i + j) = x0 + i + j := by omega
    rw [later_yes x0 x1 (i + j) h1 h2 h3 h4 (by omega) c, Option.bind_some, if_pos rfl, later_yes (x0 + i) x1 j (by omega) (by omega) h3 h4 hj (by omega), Option.bind_some, e]
    dsimp only
    rw [if_pos rfl, if_neg (by simp), awake_f k hk]
    rfl
  · rw [later_no x0 x1 (i + j) h1 h2 h3 h4 (by omega) (by omega), Option.bind_some, if_pos rfl, later_no (x0 + i) x1 j (by omega) (by omega) h3 h4 hj (by omega), Option.bind_some]
    dsimp only
    rw [if_pos rfl, if_neg (by simp), awake_f k hk]
    rfl
theorem tail_no (k : Nat) (hk : 20 ≤ k) (x0 x1 i j p0 p1 : Int) (h1 : 0 ≤ x0) (h2 : x0 ≤ 1099511627776) (h3 : 0 ≤ x1) (h4 : x1 ≤ 1048575) (hi : 0 ≤ i) (hi2 : i < 274877906944) (hj : 0 ≤ j) (hj2 : j < 274877906944) (h : ¬ i ≤ 1099511627776 - x0) :
    scriptoriumlaw05_StampKeeps.j0 (k + 1) i j 5 false x0 x1 p0 p1 = some true := by
  unfold scriptoriumlaw05_StampKeeps.j0
  dsimp only
  rw [if_neg (by simp), w64 _ (by omega) (by omega), later_no x0 x1 (i + j) h1 h2 h3 h4 (by omega) (by omega), Option.bind_some, if_neg (by decide)]
  dsimp only
  rw [if_neg (by decide), awake_f k hk]
  rfl
theorem StampKeeps : scriptoriumlaw05_StampKeeps.Pure := by
  intro a b c _ _ _
  refine ⟨21, ?_⟩
  obtain ⟨x0, hx0, p1, p2⟩ := bring_some a.f0 1099511627777 (by omega) (by omega)
  obtain ⟨x1, hx1, p3, p4⟩ := bring_some a.f1 1048576 (by omega) (by omega)
  obtain ⟨y0, hy0, q1, q2⟩ := bring_some b.f0 1099511627777 (by omega) (by omega)
  obtain ⟨y1, hy1, q3, q4⟩ := bring_some b.f1 1048576 (by omega) (by omega)
  obtain ⟨i, hi0, r1, r2⟩ := bring_some c.f0 274877906944 (by omega) (by omega)
  obtain ⟨j, hj0, r3, r4⟩ := bring_some c.f1 274877906944 (by omega) (by omega)
  have hx : scriptoriumlaw05_bring.f a.f0 a.f1 = some (x0, x1) := by
    unfold scriptoriumlaw05_bring.f
    rw [hx0, hx1]
    rfl
  have hy : scriptoriumlaw05_bring.f b.f0 b.f1 = some (y0, y1) := by
    unfold scriptoriumlaw05_bring.f
    rw [hy0, hy1]
    rfl
  unfold scriptoriumlaw05_StampKeeps.f
  rw [hx, Option.bind_some, hy, Option.bind_some, hi0, Option.bind_some, hj0, Option.bind_some]
  dsimp only
  by_cases c1 : i ≤ 1099511627776 - x0
  · rw [later_yes x0 x1 i p1 (by omega) p3 (by omega) r1 c1, Option.bind_some]
    dsimp only
    by_cases c2 : i ≤ 1099511627776 - y0
    · rw [later_yes y0 y1 i q1 (by omega) q3 (by omega) r1 c2, Option.bind_some]
      dsimp only
      rw [if_pos rfl, if_pos rfl, less_f 21 _ _ _ _ (by omega), less_f 21 _ _ _ _ (by omega), Option.bind_some, Option.bind_some]
      have e : ltS (x0 + i) x1 (y0 + i) y1 = ltS x0 x1 y0 y1 := by
        rw [Bool.eq_iff_iff, lt_iff, lt_iff]
        omega
      rw [e, bne_self_eq_false]
      exact tail_yes 20 (by omega) x0 x1 i j p1 (by omega) p3 (by omega) r1 r2 r3 r4 c1
    · rw [later_no y0 y1 i q1 (by omega) q3 (by omega) r1 (by omega), Option.bind_some]
      dsimp only
      rw [if_pos rfl, if_neg (by decide)]
      exact tail_yes 20 (by omega) x0 x1 i j p1 (by omega) p3 (by omega) r1 r2 r3 r4 c1
  · rw [later_no x0 x1 i p1 (by omega) p3 (by omega) r1 (by omega), Option.bind_some]
    dsimp only
    have hn : ∀ z : Int × Int × Int, (if (5 : Int) = 0 then z else z) = z := fun z => by split <;> rfl
    obtain ⟨z, hz⟩ : ∃ z, stamp_Later.f y0 y1 i = some z := by
      by_cases c2 : i ≤ 1099511627776 - y0
      · exact ⟨_, later_yes y0 y1 i q1 (by omega) q3 (by omega) r1 c2⟩
      · exact ⟨_, later_no y0 y1 i q1 (by omega) q3 (by omega) r1 (by omega)⟩
    rw [hz, Option.bind_some, if_neg (by decide)]
    exact tail_no 20 (by omega) x0 x1 i j 0 0 p1 (by omega) p3 (by omega) r1 r2 r3 r4 c1

end Go.Proofs.Ytnohoknhhlcefaa.Pure
