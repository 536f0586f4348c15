/- What is refused changes nothing: the law ClockStays, its pure statement. -/
import Derived.Test.YthhgoiabkgfdfaaPClockStaysx
set_option linter.unusedVariables false
set_option linter.unusedSimpArgs false
namespace Go.Proofs.Ythhgoiabkgfdfaa.Pure
open Go.RowKit Go.Proofs.Ythhgoiabkgfdfaa.PClockStays Go.Proofs.YthhgoiabkgfdfaaW.PrintWords Go.Proofs.YthhgoiabkgfdfaaW.PrintLast Go.Proofs.YthhgoiabkgfdfaaW.PrintMore
theorem more_rounds {α : Type} {f : Nat → Option α} (h : ∀ k, LeO (f k) (f (k + 1))) {j k : Nat} (hjk : j ≤ k) {r : α} (e : f j = some r) : f k = some r := by
  induction k with
  | zero => obtain rfl : j = 0 := by omega
            exact e
  | succ k ih =>
    by_cases hj : j = k + 1
    · subst hj; exact e
    · exact h k r (ih (by omega))

theorem bring_some (a n : Int) (h : 0 < n) (hn : n ≤ 4611686018427387904) : ∃ r, scriptoriumref00_Bring.f a n = some r ∧ 0 ≤ r ∧ r < n := by
  unfold scriptoriumref00_Bring.f
  have h1 := Int.tmod_lt_of_pos a h
  have h2 : -n < Int.tmod a n := by
    have := Int.lt_tmod_of_pos a h
    omega
  rw [if_neg (by omega), if_neg (by omega)]
  by_cases h3 : Int.tmod a n < 0
  · rw [if_pos h3]
    refine ⟨_, rfl, ?_⟩
    have : RowKit.wrap64 (Int.tmod a n + n) = Int.tmod a n + n := by unfold RowKit.wrap64; omega
    rw [this]
    omega
  · rw [if_neg h3]
    exact ⟨_, rfl, by omega, by omega⟩

theorem set_f (c : Ck) (a : Int) : clock_Clock_Set.f c.o c.r c.f c.b c.w c.l true a = some ((c.set a).2, (c.set a).1.o, (c.set a).1.r, (c.set a).1.f, (c.set a).1.b, (c.set a).1.w, (c.set a).1.l, true) := by
  unfold clock_Clock_Set.f; rw [if_pos rfl]
theorem raise_f (c : Ck) (a : Int) : clock_Clock_Raise.f c.o c.r c.f c.b c.w c.l true a = some ((c.raise a).2, (c.raise a).1.o, (c.raise a).1.r, (c.raise a).1.f, (c.raise a).1.b, (c.raise a).1.w, (c.raise a).1.l, true) := by
  unfold clock_Clock_Raise.f; rw [if_pos rfl]
theorem now_f (c : Ck) (hk : c.ok) : clock_Clock_Now.f c.o c.r c.f c.b c.w c.l true = some (c.now.2.1.1, c.now.2.1.2, c.now.2.2, c.now.1.o, c.now.1.r, c.now.1.f, c.now.1.b, c.now.1.w, c.now.1.l, true) := by
  unfold clock_Clock_Now.f; rw [if_pos ⟨rfl, hk⟩]
theorem see_f (c : Ck) (hk : c.ok) (x y : Int) : clock_Clock_See.f c.o c.r c.f c.b c.w c.l true x y = some ((c.see x y).2, (c.see x y).1.o, (c.see x y).1.r, (c.see x y).1.f, (c.see x y).1.b, (c.see x y).1.w, (c.see x y).1.l, true) := by
  unfold clock_Clock_See.f; rw [if_pos ⟨rfl, hk⟩]
theorem reading_f (c : Ck) : clock_Clock_Reading.f c.o c.r c.f c.b c.w c.l true = some (c.r, c.o, c.r, c.f, c.b, c.w, c.l, true) := by
  unfold clock_Clock_Reading.f; rw [if_pos rfl]
theorem bound_f (c : Ck) : clock_Clock_Bound.f c.o c.r c.f c.b c.w c.l true = some (c.b, c.o, c.r, c.f, c.b, c.w, c.l, true) := by
  unfold clock_Clock_Bound.f; rw [if_pos rfl]
theorem last_f (c : Ck) : clock_Clock_Last.f c.o c.r c.f c.b c.w c.l true = some (c.w, c.l, c.o, c.r, c.f, c.b, c.w, c.l, true) := by
  unfold clock_Clock_Last.f; rw [if_pos rfl]
theorem new_f (o b : Int) (ho : 0 ≤ o ∧ o ≤ 1099511627776) (hb : 0 ≤ b ∧ b ≤ 1099511627776) : clock_New.f o b = some ((Ck.fresh o b).o, (Ck.fresh o b).r, (Ck.fresh o b).f, (Ck.fresh o b).b, (Ck.fresh o b).w, (Ck.fresh o b).l, true, 0) := by
  unfold clock_New.f; rw [if_pos ⟨ho, hb⟩]

theorem awake_in_f (k : Nat) : scriptoriumlaw06_awake_in.f (k + 12) = some true := by
  have n1 : clock_New.f 10 0 = some (10, 0, 0, 0, 0, 0, true, 0) := by kernel_rfl
  have n2 : clock_New.f 10 100 = some (10, 0, 100, 100, 99, 1048575, true, 0) := by kernel_rfl
  have l1 : clock_Clock_Last.f 10 0 100 100 99 1048575 true = some (99, 1048575, 10, 0, 100, 100, 99, 1048575, true) := by kernel_rfl
  have r1 : clock_Clock_Ready.f 10 0 100 100 99 1048575 true = some (false, 10, 0, 100, 100, 99, 1048575, true) := by kernel_rfl
  have r2 : clock_Clock_Ready.f 10 0 0 0 0 0 true = some (true, 10, 0, 0, 0, 0, 0, true) := by kernel_rfl
  have s1 : clock_Clock_Raise.f 10 0 0 0 0 0 true 50 = some (0, 10, 0, 0, 50, 0, 0, true) := by kernel_rfl
  have s2 : clock_Clock_Set.f 10 0 0 50 0 0 true 7 = some (0, 10, 7, 0, 50, 0, 0, true) := by kernel_rfl
  have t1 : scriptoriumlaw06_tells.f 10 7 0 50 0 0 true 7 0 = some (true, 10, 7, 0, 50, 7, 0, true) := by kernel_rfl
  have t2 : scriptoriumlaw06_tells.f 10 7 0 50 7 0 true 7 1 = some (true, 10, 7, 0, 50, 7, 1, true) := by kernel_rfl
  have s3 : clock_Clock_See.f 10 7 0 50 7 1 true 17 3 = some (0, 10, 7, 0, 50, 17, 3, true) := by kernel_rfl
  have t3 : scriptoriumlaw06_tells.f 10 7 0 50 17 3 true 17 4 = some (true, 10, 7, 0, 50, 17, 4, true) := by kernel_rfl
  have s4 : clock_Clock_See.f 10 7 0 50 17 4 true 18 0 = some (60, 10, 7, 0, 50, 17, 4, true) := by kernel_rfl
  have s5 : clock_Clock_Set.f 10 7 0 50 17 4 true 50 = some (0, 10, 50, 0, 50, 17, 4, true) := by kernel_rfl
  have s6 : clock_Clock_Now.f 10 50 0 50 17 4 true = some (0, 0, 61, 10, 50, 0, 50, 17, 4, true) := by kernel_rfl
  have s7 : clock_Clock_Raise.f 10 50 0 50 17 4 true 60 = some (0, 10, 50, 0, 60, 17, 4, true) := by kernel_rfl
  have t4 : scriptoriumlaw06_tells.f 10 50 0 60 17 4 true 50 0 = some (true, 10, 50, 0, 60, 50, 0, true) := by kernel_rfl
  simp [scriptoriumlaw06_awake_in.f, scriptoriumlaw06_awake_in.j0, scriptoriumlaw06_awake_in.j1, scriptoriumlaw06_awake_in.j2, n1, n2, l1, r1, r2, s1, s2, t1, t2, s3, t3, s4, s5, s6, s7, t4]
theorem awake_f (k : Nat) (hk : 20 ≤ k) : scriptoriumlaw06_awake.f k = some true := by
  obtain ⟨k, rfl⟩ : ∃ j, k = j + 12 := ⟨k - 12, by omega⟩
  unfold scriptoriumlaw06_awake.f
  rw [awake_in_f k]
  rfl

theorem next_round (xs : List S45) (i : Nat) (c c' : Ck) (e : Int) (k : Nat) (hi : i < 100) (he : e = 0 ∨ c' = c) :
    scriptoriumlaw06_ClockStays.j2 (k + 1) xs (i : Int) c.r c.b e c'.o c'.r c'.f c'.b c'.w c'.l true c.w c.l = scriptoriumlaw06_ClockStays.l0 k xs ((i + 1 : Nat) : Int) c'.o c'.r c'.f c'.b c'.w c'.l true := by
  have hw1 : wrap64 ((i : Int) + 1) = ((i + 1 : Nat) : Int) := by unfold wrap64; omega
  simp only [scriptoriumlaw06_ClockStays.j2]
  rw [hw1]
  by_cases h : e = 0
  · rw [if_pos h]
  rw [if_neg h]
  obtain rfl := he.resolve_left h
  rw [reading_f]
  simp only [Option.bind_some]
  rw [if_pos trivial, last_f]
  simp only [Option.bind_some]
  rw [if_neg (by simp), bound_f]
  simp only [Option.bind_some]
  rw [if_pos trivial]
theorem set_stays (c : Ck) (a : Int) : (c.set a).2 = 0 ∨ (c.set a).1 = c := by unfold Ck.set; split; exact .inr rfl; exact .inl rfl
theorem raise_stays (c : Ck) (a : Int) : (c.raise a).2 = 0 ∨ (c.raise a).1 = c := by unfold Ck.raise; split; exact .inr rfl; exact .inl rfl
theorem now_stays (c : Ck) : c.now.2.2 = 0 ∨ c.now.1 = c := by
  unfold Ck.now
  split
  · exact .inr rfl
  split
  · exact .inr rfl
  · exact .inl rfl
theorem see_stays (c : Ck) (x y : Int) : (c.see x y).2 = 0 ∨ (c.see x y).1 = c := by
  unfold Ck.see
  split
  · exact .inr rfl
  split
  · exact .inr rfl
  split
  · exact .inr rfl
  · exact .inl rfl
theorem loop (xs : List S45) : ∀ (n i : Nat) (c : Ck) (k : Nat), c.ok → 100 ≤ i + n → 3 * n + 60 ≤ k →
    scriptoriumlaw06_ClockStays.l0 k xs (i : Int) c.o c.r c.f c.b c.w c.l true = some true := by
  intro n
  induction n with
  | zero =>
    intro i c k hk hi hd
    obtain ⟨k, rfl⟩ : ∃ j, k = j + 2 := ⟨k - 2, by omega⟩
    simp only [scriptoriumlaw06_ClockStays.l0]
    rw [show decide ((i : Int) < 100) = false from decide_eq_false (by omega), ite_self]
    simp only [scriptoriumlaw06_ClockStays.j1]
    rw [if_neg (by simp), awake_f _ (by omega)]
    rfl
  | succ n ih =>
    intro i c k hk hi hd
    obtain ⟨k, rfl⟩ : ∃ j, k = j + 3 := ⟨k - 3, by omega⟩
    by_cases h100 : 100 ≤ i
    · exact ih i c _ hk (by omega) (by omega)
    simp only [scriptoriumlaw06_ClockStays.l0]
    by_cases hlen : (i : Int) < (xs.length : Int)
    case neg =>
      rw [if_neg hlen]
      simp only [scriptoriumlaw06_ClockStays.j1]
      rw [if_neg (by simp), awake_f _ (by omega)]
      rfl
    rw [if_pos hlen, show decide ((i : Int) < 100) = true from decide_eq_true (by omega)]
    simp only [scriptoriumlaw06_ClockStays.j1]
    rw [if_pos trivial, reading_f]
    simp only [Option.bind_some]
    rw [last_f]
    simp only [Option.bind_some]
    rw [bound_f]
    simp only [Option.bind_some]
    rw [if_pos (by omega), if_pos hlen]
    obtain ⟨kk, hkk, _, _⟩ := bring_some (rd_T45 xs i).f0 4 (by omega) (by omega)
    rw [hkk]
    simp only [Option.bind_some]
    by_cases h0 : kk = 0
    · rw [if_pos h0, set_f]
      simp only [Option.bind_some]
      rw [next_round xs i c _ _ k (by omega) (set_stays c _)]
      exact ih (i + 1) _ k (Ck.set_ok c _ hk) (by omega) (by omega)
    rw [if_neg h0]
    by_cases h1 : kk = 1
    · rw [if_pos h1, raise_f]
      simp only [Option.bind_some]
      rw [next_round xs i c _ _ k (by omega) (raise_stays c _)]
      exact ih (i + 1) _ k (Ck.raise_ok c _ hk) (by omega) (by omega)
    rw [if_neg h1]
    by_cases h2 : kk = 2
    · rw [if_pos h2, now_f c hk]
      simp only [Option.bind_some]
      rw [next_round xs i c _ _ k (by omega) (now_stays c)]
      exact ih (i + 1) _ k (Ck.now_ok c hk) (by omega) (by omega)
    rw [if_neg h2, see_f c hk]
    simp only [Option.bind_some]
    rw [next_round xs i c _ _ k (by omega) (see_stays c _ _)]
    exact ih (i + 1) _ k (Ck.see_ok c _ _ hk) (by omega) (by omega)
theorem ClockStays : scriptoriumlaw06_ClockStays.Pure := by
  intro a b xs _ _ _
  obtain ⟨K, hK⟩ : ∃ K : Nat, K = 1000 := ⟨_, rfl⟩
  refine ⟨K, ?_⟩
  obtain ⟨x, hx, _, _⟩ := bring_some a 500 (by omega) (by omega)
  obtain ⟨y, hy, _, _⟩ := bring_some b 500 (by omega) (by omega)
  unfold scriptoriumlaw06_ClockStays.f
  rw [hx, hy]
  simp only [Option.bind_some]
  rw [new_f x y (by omega) (by omega)]
  simp only [Option.bind_some]
  rw [if_pos trivial]
  have h := loop xs 100 0 (Ck.fresh x y) K (Ck.fresh_ok x y (by omega) (by omega)) (by omega) (by omega)
  exact h

end Go.Proofs.Ythhgoiabkgfdfaa.Pure
