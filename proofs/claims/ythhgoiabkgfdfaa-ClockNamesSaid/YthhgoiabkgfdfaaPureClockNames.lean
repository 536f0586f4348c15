/- What no clock answers, and the document at the ends: the law ClockNames, its pure statement. -/
import Derived.Test.YthhgoiabkgfdfaaKNames
set_option linter.unusedVariables false
set_option linter.unusedSimpArgs false
namespace Go.Proofs.Ythhgoiabkgfdfaa.Pure
open Go.RowKit Go.Proofs.Ythhgoiabkgfdfaa.PClockRises Go.Proofs.YthhgoiabkgfdfaaW.PrintWords Go.Proofs.YthhgoiabkgfdfaaW.PrintLast Go.Proofs.YthhgoiabkgfdfaaW.PrintMore
theorem more_rounds {α : Type} {f : Nat → Option α} (h : ∀ k, LeO (f k) (f (k + 1))) {j k : Nat} (hjk : j ≤ k) {r : α} (e : f j = some r) : f k = some r := by
  induction k with
  | zero => obtain rfl : j = 0 := by omega
            exact e
  | succ k ih =>
    by_cases hj : j = k + 1
    · subst hj; exact e
    · exact h k r (ih (by omega))
/-- Is one stamp less than another one? -/
def ltS (a0 a1 b0 b1 : Int) : Bool := decide (a0 < b0) || (decide (a0 = b0) && decide (a1 < b1))
def cmp3 (a b : Int) : Int := if a < b then -1 else if a > b then 1 else 0
theorem compare_f (a b : Int) : cmp_Compare_int.f a b = some (cmp3 a b) := by
  unfold cmp_Compare_int.f cmp_isNaN_int.f cmp3
  simp only [Option.bind_some, bne_self_eq_false, Bool.false_eq_true, if_false]
  split
  · rfl
  · split <;> rfl
theorem or_f (k : Nat) (x y : Int) (hk : 5 < k) : cmp_Or_int.f k [x, y] = some (if x = 0 then y else x) := by
  obtain ⟨k, rfl⟩ : ∃ j, k = j + 3 := ⟨k - 3, by omega⟩
  have r0 : rd [x, y] 0 = x := rfl
  have r1 : rd [x, y] 1 = y := rfl
  have w0 : wrap64 (0 + 1) = 1 := by unfold wrap64; omega
  have w1 : wrap64 (1 + 1) = 2 := by unfold wrap64; omega
  have l2 : (([x, y] : List Int).length : Int) = 2 := rfl
  unfold cmp_Or_int.f
  rw [l2]
  simp only [cmp_Or_int.l0]
  rw [if_pos (by decide), if_pos (by decide), l2, if_pos (by decide), r0, w0]
  by_cases h : x = 0
  · rw [if_pos h, if_pos h, if_pos (by decide), if_pos (by decide), if_pos (by decide), r1, w1]
    by_cases h2 : y = 0
    · rw [if_pos h2, if_neg (by decide), h2]
    · rw [if_neg h2]
  · rw [if_neg h, if_neg h]
theorem stampcmp_f (k : Nat) (a0 a1 b0 b1 : Int) (hk : 5 < k) : stamp_compare.f k a0 a1 b0 b1 = some (if cmp3 a0 b0 = 0 then cmp3 a1 b1 else cmp3 a0 b0) := by
  unfold stamp_compare.f
  rw [compare_f, compare_f]
  simp only [Option.bind_some]
  rw [or_f k _ _ hk]
  rfl
theorem less_f (k : Nat) (a0 a1 b0 b1 : Int) (hk : 5 < k) : stamp_Less.f k a0 a1 b0 b1 = some (ltS a0 a1 b0 b1) := by
  unfold stamp_Less.f
  rw [stampcmp_f k a0 a1 b0 b1 hk]
  simp only [Option.bind_some]
  congr 1
  have e : (if cmp3 a0 b0 = 0 then cmp3 a1 b1 else cmp3 a0 b0) < 0 ↔ a0 < b0 ∨ (a0 = b0 ∧ a1 < b1) := by
    unfold cmp3
    repeat' split
    all_goals omega
  unfold ltS
  rw [Bool.eq_iff_iff]
  simp only [decide_eq_true_eq, Bool.or_eq_true, Bool.and_eq_true]
  exact e
theorem set_f (c : Ck) (a : Int) : clock_Clock_Set.f c.o c.r c.f c.b c.w c.l true a = some ((c.set a).2, (c.set a).1.o, (c.set a).1.r, (c.set a).1.f, (c.set a).1.b, (c.set a).1.w, (c.set a).1.l, true) := by
  unfold clock_Clock_Set.f; rw [if_pos rfl]
theorem raise_f (c : Ck) (a : Int) : clock_Clock_Raise.f c.o c.r c.f c.b c.w c.l true a = some ((c.raise a).2, (c.raise a).1.o, (c.raise a).1.r, (c.raise a).1.f, (c.raise a).1.b, (c.raise a).1.w, (c.raise a).1.l, true) := by
  unfold clock_Clock_Raise.f; rw [if_pos rfl]
theorem now_f (c : Ck) (hk : c.ok) : clock_Clock_Now.f c.o c.r c.f c.b c.w c.l true = some (c.now.2.1.1, c.now.2.1.2, c.now.2.2, c.now.1.o, c.now.1.r, c.now.1.f, c.now.1.b, c.now.1.w, c.now.1.l, true) := by
  unfold clock_Clock_Now.f; rw [if_pos ⟨rfl, hk⟩]
theorem see_f (c : Ck) (hk : c.ok) (x y : Int) : clock_Clock_See.f c.o c.r c.f c.b c.w c.l true x y = some ((c.see x y).2, (c.see x y).1.o, (c.see x y).1.r, (c.see x y).1.f, (c.see x y).1.b, (c.see x y).1.w, (c.see x y).1.l, true) := by
  unfold clock_Clock_See.f; rw [if_pos ⟨rfl, hk⟩]
theorem reading_f (c : Ck) : clock_Clock_Reading.f c.o c.r c.f c.b c.w c.l true = some (c.r, c.o, c.r, c.f, c.b, c.w, c.l, true) := by
  unfold clock_Clock_Reading.f; rw [if_pos rfl]
theorem bound_f (c : Ck) : clock_Clock_Bound.f c.o c.r c.f c.b c.w c.l true = some (c.b, c.o, c.r, c.f, c.b, c.w, c.l, true) := by
  unfold clock_Clock_Bound.f; rw [if_pos rfl]
theorem last_f (c : Ck) : clock_Clock_Last.f c.o c.r c.f c.b c.w c.l true = some (c.w, c.l, c.o, c.r, c.f, c.b, c.w, c.l, true) := by
  unfold clock_Clock_Last.f; rw [if_pos rfl]
theorem new_f (o b : Int) (ho : 0 ≤ o ∧ o ≤ 1099511627776) (hb : 0 ≤ b ∧ b ≤ 1099511627776) : clock_New.f o b = some ((Ck.fresh o b).o, (Ck.fresh o b).r, (Ck.fresh o b).f, (Ck.fresh o b).b, (Ck.fresh o b).w, (Ck.fresh o b).l, true, 0) := by
  unfold clock_New.f; rw [if_pos ⟨ho, hb⟩]
theorem bring_f (a0 a1 a2 a3 : Int) : ∃ x y z, scriptoriumlaw06_bring.f a0 a1 a2 a3 = some (a0, x, y, z) := by
  obtain ⟨x, hx, _, _⟩ := bring_some a1 500 (by omega) (by omega)
  obtain ⟨y, hy, _, _⟩ := bring_some a2 500 (by omega) (by omega)
  obtain ⟨z, hz, _, _⟩ := bring_some a3 1048576 (by omega) (by omega)
  refine ⟨x, y, z, ?_⟩
  unfold scriptoriumlaw06_bring.f
  rw [hx, hy, hz]
  rfl
theorem does_f (c : Ck) (hk : c.ok) (k a x y : Int) : ∃ kk, scriptoriumlaw06_does.f c.o c.r c.f c.b c.w c.l true k a x y = some ((c.does kk a x y).2.1.1, (c.does kk a x y).2.1.2, (c.does kk a x y).2.2, (c.does kk a x y).1.o, (c.does kk a x y).1.r, (c.does kk a x y).1.f, (c.does kk a x y).1.b, (c.does kk a x y).1.w, (c.does kk a x y).1.l, true) := by
  obtain ⟨kk, hkk, _, _⟩ := bring_some k 4 (by omega) (by omega)
  refine ⟨kk, ?_⟩
  unfold scriptoriumlaw06_does.f Ck.does
  rw [hkk]
  simp only [Option.bind_some]
  by_cases h0 : kk = 0
  · rw [if_pos h0, if_pos h0, set_f]; rfl
  rw [if_neg h0, if_neg h0]
  by_cases h1 : kk = 1
  · rw [if_pos h1, if_pos h1, raise_f]; rfl
  rw [if_neg h1, if_neg h1]
  by_cases h2 : kk = 2
  · rw [if_pos h2, if_pos h2, now_f c hk]
    simp only [Option.bind_some]
    rw [show (c.now.2.2 == 0) = decide (c.now.2.2 = 0) from rfl]
  rw [if_neg h2, if_neg h2, see_f c hk]; rfl
theorem awake_in_f (k : Nat) : scriptoriumlaw06_awake_in.f (k + 12) = some true := by
  have n1 : clock_New.f 10 0 = some (10, 0, 0, 0, 0, 0, true, 0) := by kernel_rfl
  have n2 : clock_New.f 10 100 = some (10, 0, 100, 100, 99, 1048575, true, 0) := by kernel_rfl
  have l1 : clock_Clock_Last.f 10 0 100 100 99 1048575 true = some (99, 1048575, 10, 0, 100, 100, 99, 1048575, true) := by kernel_rfl
  have r1 : clock_Clock_Ready.f 10 0 100 100 99 1048575 true = some (false, 10, 0, 100, 100, 99, 1048575, true) := by kernel_rfl
  have r2 : clock_Clock_Ready.f 10 0 0 0 0 0 true = some (true, 10, 0, 0, 0, 0, 0, true) := by kernel_rfl
  have s1 : clock_Clock_Raise.f 10 0 0 0 0 0 true 50 = some (0, 10, 0, 0, 50, 0, 0, true) := by kernel_rfl
  have s2 : clock_Clock_Set.f 10 0 0 50 0 0 true 7 = some (0, 10, 7, 0, 50, 0, 0, true) := by kernel_rfl
  have t1 : scriptoriumlaw06_tells.f 10 7 0 50 0 0 true 7 0 = some (true, 10, 7, 0, 50, 7, 0, true) := by kernel_rfl
  have t2 : scriptoriumlaw06_tells.f 10 7 0 50 7 0 true 7 1 = some (true, 10, 7, 0, 50, 7, 1, true) := by kernel_rfl
  have s3 : clock_Clock_See.f 10 7 0 50 7 1 true 17 3 = some (0, 10, 7, 0, 50, 17, 3, true) := by kernel_rfl
  have t3 : scriptoriumlaw06_tells.f 10 7 0 50 17 3 true 17 4 = some (true, 10, 7, 0, 50, 17, 4, true) := by kernel_rfl
  have s4 : clock_Clock_See.f 10 7 0 50 17 4 true 18 0 = some (60, 10, 7, 0, 50, 17, 4, true) := by kernel_rfl
  have s5 : clock_Clock_Set.f 10 7 0 50 17 4 true 50 = some (0, 10, 50, 0, 50, 17, 4, true) := by kernel_rfl
  have s6 : clock_Clock_Now.f 10 50 0 50 17 4 true = some (0, 0, 61, 10, 50, 0, 50, 17, 4, true) := by kernel_rfl
  have s7 : clock_Clock_Raise.f 10 50 0 50 17 4 true 60 = some (0, 10, 50, 0, 60, 17, 4, true) := by kernel_rfl
  have t4 : scriptoriumlaw06_tells.f 10 50 0 60 17 4 true 50 0 = some (true, 10, 50, 0, 60, 50, 0, true) := by kernel_rfl
  simp [scriptoriumlaw06_awake_in.f, scriptoriumlaw06_awake_in.j0, scriptoriumlaw06_awake_in.j1, scriptoriumlaw06_awake_in.j2, n1, n2, l1, r1, r2, s1, s2, t1, t2, s3, t3, s4, s5, s6, s7, t4]
theorem awake_f (k : Nat) (hk : 20 ≤ k) : scriptoriumlaw06_awake.f k = some true := by
  obtain ⟨k, rfl⟩ : ∃ j, k = j + 12 := ⟨k - 12, by omega⟩
  unfold scriptoriumlaw06_awake.f
  rw [awake_in_f k]
  rfl
theorem ClockNames : scriptoriumlaw06_ClockNames.Pure := ⟨20, awake_f 20 (Nat.le_refl _)⟩
end Go.Proofs.Ythhgoiabkgfdfaa.Pure
