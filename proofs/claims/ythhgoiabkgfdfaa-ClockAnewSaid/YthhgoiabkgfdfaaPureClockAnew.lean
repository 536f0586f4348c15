/- A clock that begins with another one's bound makes only stamps that are behind all that the other one made or took: the law ClockAnew, its pure statement. -/
import Derived.Test.YthhgoiabkgfdfaaPClockAnewx
set_option linter.unusedVariables false
set_option linter.unusedSimpArgs false
namespace Go.Proofs.Ythhgoiabkgfdfaa.Pure
open Go.RowKit Go.Proofs.Ythhgoiabkgfdfaa.PClockAnew Go.Proofs.YthhgoiabkgfdfaaW.PrintWords Go.Proofs.YthhgoiabkgfdfaaW.PrintLast Go.Proofs.YthhgoiabkgfdfaaW.PrintMore
theorem more_rounds {α : Type} {f : Nat → Option α} (h : ∀ k, LeO (f k) (f (k + 1))) {j k : Nat} (hjk : j ≤ k) {r : α} (e : f j = some r) : f k = some r := by
  induction k with
  | zero => obtain rfl : j = 0 := by omega
            exact e
  | succ k ih =>
    by_cases hj : j = k + 1
    · subst hj; exact e
    · exact h k r (ih (by omega))

theorem bring_some (a n : Int) (h : 0 < n) (hn : n ≤ 4611686018427387904) : ∃ r, scriptoriumref00_Bring.f a n = some r ∧ 0 ≤ r ∧ r < n := by
  unfold scriptoriumref00_Bring.f
  have h1 := Int.tmod_lt_of_pos a h
  have h2 : -n < Int.tmod a n := by
    have := Int.lt_tmod_of_pos a h
    omega
  rw [if_neg (by omega), if_neg (by omega)]
  by_cases h3 : Int.tmod a n < 0
  · rw [if_pos h3]
    refine ⟨_, rfl, ?_⟩
    have : RowKit.wrap64 (Int.tmod a n + n) = Int.tmod a n + n := by unfold RowKit.wrap64; omega
    rw [this]
    omega
  · rw [if_neg h3]
    exact ⟨_, rfl, by omega, by omega⟩

/-- Is one stamp less than another one? -/
def ltS (a0 a1 b0 b1 : Int) : Bool := decide (a0 < b0) || (decide (a0 = b0) && decide (a1 < b1))
def cmp3 (a b : Int) : Int := if a < b then -1 else if a > b then 1 else 0
theorem compare_f (a b : Int) : cmp_Compare_int.f a b = some (cmp3 a b) := by
  unfold cmp_Compare_int.f cmp_isNaN_int.f cmp3
  simp only [Option.bind_some, bne_self_eq_false, Bool.false_eq_true, if_false]
  split
  · rfl
  · split <;> rfl
theorem or_f (k : Nat) (x y : Int) (hk : 5 < k) : cmp_Or_int.f k [x, y] = some (if x = 0 then y else x) := by
  obtain ⟨k, rfl⟩ : ∃ j, k = j + 3 := ⟨k - 3, by omega⟩
  have r0 : rd [x, y] 0 = x := rfl
  have r1 : rd [x, y] 1 = y := rfl
  have w0 : wrap64 (0 + 1) = 1 := by unfold wrap64; omega
  have w1 : wrap64 (1 + 1) = 2 := by unfold wrap64; omega
  have l2 : (([x, y] : List Int).length : Int) = 2 := rfl
  unfold cmp_Or_int.f
  rw [l2]
  simp only [cmp_Or_int.l0]
  rw [if_pos (by decide), if_pos (by decide), l2, if_pos (by decide), r0, w0]
  by_cases h : x = 0
  · rw [if_pos h, if_pos h, if_pos (by decide), if_pos (by decide), if_pos (by decide), r1, w1]
    by_cases h2 : y = 0
    · rw [if_pos h2, if_neg (by decide), h2]
    · rw [if_neg h2]
  · rw [if_neg h, if_neg h]
theorem stampcmp_f (k : Nat) (a0 a1 b0 b1 : Int) (hk : 5 < k) : stamp_compare.f k a0 a1 b0 b1 = some (if cmp3 a0 b0 = 0 then cmp3 a1 b1 else cmp3 a0 b0) := by
  unfold stamp_compare.f
  rw [compare_f, compare_f]
  simp only [Option.bind_some]
  rw [or_f k _ _ hk]
  rfl
theorem less_f (k : Nat) (a0 a1 b0 b1 : Int) (hk : 5 < k) : stamp_Less.f k a0 a1 b0 b1 = some (ltS a0 a1 b0 b1) := by
  unfold stamp_Less.f
  rw [stampcmp_f k a0 a1 b0 b1 hk]
  simp only [Option.bind_some]
  congr 1
  have e : (if cmp3 a0 b0 = 0 then cmp3 a1 b1 else cmp3 a0 b0) < 0 ↔ a0 < b0 ∨ (a0 = b0 ∧ a1 < b1) := by
    unfold cmp3
    repeat' split
    all_goals omega
  unfold ltS
  rw [Bool.eq_iff_iff]
  simp only [decide_eq_true_eq, Bool.or_eq_true, Bool.and_eq_true]
  exact e

theorem set_f (c : Ck) (a : Int) : clock_Clock_Set.f c.o c.r c.f c.b c.w c.l true a = some ((c.set a).2, (c.set a).1.o, (c.set a).1.r, (c.set a).1.f, (c.set a).1.b, (c.set a).1.w, (c.set a).1.l, true) := by
  unfold clock_Clock_Set.f; rw [if_pos rfl]
theorem raise_f (c : Ck) (a : Int) : clock_Clock_Raise.f c.o c.r c.f c.b c.w c.l true a = some ((c.raise a).2, (c.raise a).1.o, (c.raise a).1.r, (c.raise a).1.f, (c.raise a).1.b, (c.raise a).1.w, (c.raise a).1.l, true) := by
  unfold clock_Clock_Raise.f; rw [if_pos rfl]
theorem now_f (c : Ck) (hk : c.ok) : clock_Clock_Now.f c.o c.r c.f c.b c.w c.l true = some (c.now.2.1.1, c.now.2.1.2, c.now.2.2, c.now.1.o, c.now.1.r, c.now.1.f, c.now.1.b, c.now.1.w, c.now.1.l, true) := by
  unfold clock_Clock_Now.f; rw [if_pos ⟨rfl, hk⟩]
theorem see_f (c : Ck) (hk : c.ok) (x y : Int) : clock_Clock_See.f c.o c.r c.f c.b c.w c.l true x y = some ((c.see x y).2, (c.see x y).1.o, (c.see x y).1.r, (c.see x y).1.f, (c.see x y).1.b, (c.see x y).1.w, (c.see x y).1.l, true) := by
  unfold clock_Clock_See.f; rw [if_pos ⟨rfl, hk⟩]
theorem reading_f (c : Ck) : clock_Clock_Reading.f c.o c.r c.f c.b c.w c.l true = some (c.r, c.o, c.r, c.f, c.b, c.w, c.l, true) := by
  unfold clock_Clock_Reading.f; rw [if_pos rfl]
theorem bound_f (c : Ck) : clock_Clock_Bound.f c.o c.r c.f c.b c.w c.l true = some (c.b, c.o, c.r, c.f, c.b, c.w, c.l, true) := by
  unfold clock_Clock_Bound.f; rw [if_pos rfl]
theorem last_f (c : Ck) : clock_Clock_Last.f c.o c.r c.f c.b c.w c.l true = some (c.w, c.l, c.o, c.r, c.f, c.b, c.w, c.l, true) := by
  unfold clock_Clock_Last.f; rw [if_pos rfl]
theorem new_f (o b : Int) (ho : 0 ≤ o ∧ o ≤ 1099511627776) (hb : 0 ≤ b ∧ b ≤ 1099511627776) : clock_New.f o b = some ((Ck.fresh o b).o, (Ck.fresh o b).r, (Ck.fresh o b).f, (Ck.fresh o b).b, (Ck.fresh o b).w, (Ck.fresh o b).l, true, 0) := by
  unfold clock_New.f; rw [if_pos ⟨ho, hb⟩]

theorem bring_f (a0 a1 a2 a3 : Int) : ∃ x y z, scriptoriumlaw06_bring.f a0 a1 a2 a3 = some (a0, x, y, z) := by
  obtain ⟨x, hx, _, _⟩ := bring_some a1 500 (by omega) (by omega)
  obtain ⟨y, hy, _, _⟩ := bring_some a2 500 (by omega) (by omega)
  obtain ⟨z, hz, _, _⟩ := bring_some a3 1048576 (by omega) (by omega)
  refine ⟨x, y, z, ?_⟩
  unfold scriptoriumlaw06_bring.f
  rw [hx, hy, hz]
  rfl
theorem does_f (c : Ck) (hk : c.ok) (k a x y : Int) : ∃ kk, scriptoriumlaw06_does.f c.o c.r c.f c.b c.w c.l true k a x y = some ((c.does kk a x y).2.1.1, (c.does kk a x y).2.1.2, (c.does kk a x y).2.2, (c.does kk a x y).1.o, (c.does kk a x y).1.r, (c.does kk a x y).1.f, (c.does kk a x y).1.b, (c.does kk a x y).1.w, (c.does kk a x y).1.l, true) := by
  obtain ⟨kk, hkk, _, _⟩ := bring_some k 4 (by omega) (by omega)
  refine ⟨kk, ?_⟩
  unfold scriptoriumlaw06_does.f Ck.does
  rw [hkk]
  simp only [Option.bind_some]
  by_cases h0 : kk = 0
  · rw [if_pos h0, if_pos h0, set_f]; rfl
  rw [if_neg h0, if_neg h0]
  by_cases h1 : kk = 1
  · rw [if_pos h1, if_pos h1, raise_f]; rfl
  rw [if_neg h1, if_neg h1]
  by_cases h2 : kk = 2
  · rw [if_pos h2, if_pos h2, now_f c hk]
    simp only [Option.bind_some]
    rw [show (c.now.2.2 == 0) = decide (c.now.2.2 = 0) from rfl]
  rw [if_neg h2, if_neg h2, see_f c hk]; rfl

theorem does_keep (c : Ck) (k a x y : Int) : (c.does k a x y).1.f = c.f ∧ (((c.does k a x y).1.w = c.w ∧ (c.does k a x y).1.l = c.l) ∨ (c.does k a x y).1.w < (c.does k a x y).1.b) := by
  unfold Ck.does
  by_cases h0 : k = 0
  · rw [if_pos h0]; unfold Ck.set; split <;> exact ⟨rfl, .inl ⟨rfl, rfl⟩⟩
  rw [if_neg h0]
  by_cases h1 : k = 1
  · rw [if_pos h1]; unfold Ck.raise; split <;> exact ⟨rfl, .inl ⟨rfl, rfl⟩⟩
  rw [if_neg h1]
  by_cases h2 : k = 2
  · rw [if_pos h2]; unfold Ck.now
    split
    · exact ⟨rfl, .inl ⟨rfl, rfl⟩⟩
    split
    · exact ⟨rfl, .inl ⟨rfl, rfl⟩⟩
    · rename_i h; exact ⟨rfl, .inr (by dsimp only; omega)⟩
  rw [if_neg h2]
  unfold Ck.see
  split
  · exact ⟨rfl, .inl ⟨rfl, rfl⟩⟩
  split
  · exact ⟨rfl, .inl ⟨rfl, rfl⟩⟩
  split
  · exact ⟨rfl, .inl ⟨rfl, rfl⟩⟩
  rename_i h
  refine ⟨rfl, ?_⟩
  dsimp only
  rcases smx_cases c.w c.l x y with ⟨e, h4⟩ | ⟨e, h4⟩ <;> rw [e] <;> dsimp only <;> omega
theorem does_ex (c : Ck) (hk : c.ok) (k a x y : Int) : ∃ (c' : Ck) (sw sl : Int) (is : Bool), scriptoriumlaw06_does.f c.o c.r c.f c.b c.w c.l true k a x y = some (sw, sl, is, c'.o, c'.r, c'.f, c'.b, c'.w, c'.l, true) ∧ Grew c c' ∧ (is = true → sw = c'.w ∧ sl = c'.l ∧ (c.w < c'.w ∨ (c.w = c'.w ∧ c.l < c'.l)) ∧ c'.w < c'.b ∧ c'.r ≤ c'.w) ∧ c'.f = c.f ∧ ((c'.w = c.w ∧ c'.l = c.l) ∨ c'.w < c'.b) := by
  obtain ⟨kk, hdo⟩ := does_f c hk k a x y
  obtain ⟨hg, hn⟩ := Ck.does_grew c kk a x y hk
  obtain ⟨hf, hke⟩ := does_keep c kk a x y
  refine ⟨_, _, _, _, hdo, hg, fun h => ?_, hf, hke⟩
  obtain ⟨he, hlt, hbd, hrd⟩ := hn h
  exact ⟨congrArg Prod.fst he, congrArg Prod.snd he, hlt, hbd, hrd⟩

theorem ready_f (c : Ck) : clock_Clock_Ready.f c.o c.r c.f c.b c.w c.l true = some (decide (c.f ≤ c.r), c.o, c.r, c.f, c.b, c.w, c.l, true) := by
  unfold clock_Clock_Ready.f; rw [if_pos rfl]
theorem awake_in_f (k : Nat) : scriptoriumlaw06_awake_in.f (k + 12) = some true := by
  have n1 : clock_New.f 10 0 = some (10, 0, 0, 0, 0, 0, true, 0) := by kernel_rfl
  have n2 : clock_New.f 10 100 = some (10, 0, 100, 100, 99, 1048575, true, 0) := by kernel_rfl
  have l1 : clock_Clock_Last.f 10 0 100 100 99 1048575 true = some (99, 1048575, 10, 0, 100, 100, 99, 1048575, true) := by kernel_rfl
  have r1 : clock_Clock_Ready.f 10 0 100 100 99 1048575 true = some (false, 10, 0, 100, 100, 99, 1048575, true) := by kernel_rfl
  have r2 : clock_Clock_Ready.f 10 0 0 0 0 0 true = some (true, 10, 0, 0, 0, 0, 0, true) := by kernel_rfl
  have s1 : clock_Clock_Raise.f 10 0 0 0 0 0 true 50 = some (0, 10, 0, 0, 50, 0, 0, true) := by kernel_rfl
  have s2 : clock_Clock_Set.f 10 0 0 50 0 0 true 7 = some (0, 10, 7, 0, 50, 0, 0, true) := by kernel_rfl
  have t1 : scriptoriumlaw06_tells.f 10 7 0 50 0 0 true 7 0 = some (true, 10, 7, 0, 50, 7, 0, true) := by kernel_rfl
  have t2 : scriptoriumlaw06_tells.f 10 7 0 50 7 0 true 7 1 = some (true, 10, 7, 0, 50, 7, 1, true) := by kernel_rfl
  have s3 : clock_Clock_See.f 10 7 0 50 7 1 true 17 3 = some (0, 10, 7, 0, 50, 17, 3, true) := by kernel_rfl
  have t3 : scriptoriumlaw06_tells.f 10 7 0 50 17 3 true 17 4 = some (true, 10, 7, 0, 50, 17, 4, true) := by kernel_rfl
  have s4 : clock_Clock_See.f 10 7 0 50 17 4 true 18 0 = some (60, 10, 7, 0, 50, 17, 4, true) := by kernel_rfl
  have s5 : clock_Clock_Set.f 10 7 0 50 17 4 true 50 = some (0, 10, 50, 0, 50, 17, 4, true) := by kernel_rfl
  have s6 : clock_Clock_Now.f 10 50 0 50 17 4 true = some (0, 0, 61, 10, 50, 0, 50, 17, 4, true) := by kernel_rfl
  have s7 : clock_Clock_Raise.f 10 50 0 50 17 4 true 60 = some (0, 10, 50, 0, 60, 17, 4, true) := by kernel_rfl
  have t4 : scriptoriumlaw06_tells.f 10 50 0 60 17 4 true 50 0 = some (true, 10, 50, 0, 60, 50, 0, true) := by kernel_rfl
  simp [scriptoriumlaw06_awake_in.f, scriptoriumlaw06_awake_in.j0, scriptoriumlaw06_awake_in.j1, scriptoriumlaw06_awake_in.j2, n1, n2, l1, r1, r2, s1, s2, t1, t2, s3, t3, s4, s5, s6, s7, t4]
theorem awake_f (k : Nat) (hk : 20 ≤ k) : scriptoriumlaw06_awake.f k = some true := by
  obtain ⟨k, rfl⟩ : ∃ j, k = j + 12 := ⟨k - 12, by omega⟩
  unfold scriptoriumlaw06_awake.f
  rw [awake_in_f k]
  rfl

theorem lt_iff (a0 a1 b0 b1 : Int) : ltS a0 a1 b0 b1 = true ↔ a0 < b0 ∨ (a0 = b0 ∧ a1 < b1) := by
  unfold ltS
  simp only [decide_eq_true_eq, Bool.or_eq_true, Bool.and_eq_true]
theorem lt_not (a0 a1 b0 b1 : Int) : ltS a0 a1 b0 b1 = false ↔ ¬ (a0 < b0 ∨ (a0 = b0 ∧ a1 < b1)) := by
  rw [← lt_iff]
  cases ltS a0 a1 b0 b1 <;> simp
theorem ends (ys : List S45) (i : Nat) (c d : Ck) (k : Nat) (hf : d.f = c.b) (hk : 40 ≤ k) :
    scriptoriumlaw06_ClockAnew.j4 (k + 1) ys (i : Int) false c.o c.r c.f c.b c.w c.l true d.o d.r d.f d.b d.w d.l true = some true := by
  simp only [scriptoriumlaw06_ClockAnew.j4]
  rw [if_neg (by simp), ready_f]
  simp only [Option.bind_some]
  rw [reading_f]
  simp only [Option.bind_some]
  rw [bound_f]
  simp only [Option.bind_some]
  rw [if_pos (by rw [hf]; simp), awake_f _ (by omega)]
  rfl
theorem loop1 (ys : List S45) (c : Ck) : ∀ (n i : Nat) (d : Ck) (k : Nat), d.ok → d.f = c.b → (c.w < d.w ∨ (c.w = d.w ∧ c.l ≤ d.l)) → 100 ≤ i + n → 2 * n + 60 ≤ k →
    scriptoriumlaw06_ClockAnew.l1 k ys (i : Int) c.o c.r c.f c.b c.w c.l true d.o d.r d.f d.b d.w d.l true = some true := by
  intro n
  induction n with
  | zero =>
    intro i d k hk hf hl hi hd
    obtain ⟨k, rfl⟩ : ∃ j, k = j + 2 := ⟨k - 2, by omega⟩
    simp only [scriptoriumlaw06_ClockAnew.l1]
    rw [show decide ((i : Int) < 100) = false from decide_eq_false (by omega), ite_self]
    exact ends ys i c d k hf (by omega)
  | succ n ih =>
    intro i d k hk hf hl hi hd
    obtain ⟨k, rfl⟩ : ∃ j, k = j + 2 := ⟨k - 2, by omega⟩
    by_cases h100 : 100 ≤ i
    · exact ih i d _ hk hf hl (by omega) (by omega)
    have hw1 : wrap64 ((i : Int) + 1) = ((i + 1 : Nat) : Int) := by unfold wrap64; omega
    simp only [scriptoriumlaw06_ClockAnew.l1]
    by_cases hlen : (i : Int) < (ys.length : Int)
    case neg =>
      rw [if_neg hlen]
      exact ends ys i c d k hf (by omega)
    rw [if_pos hlen, show decide ((i : Int) < 100) = true from decide_eq_true (by omega)]
    simp only [scriptoriumlaw06_ClockAnew.j4]
    rw [if_pos trivial, if_pos (by omega), if_pos hlen]
    obtain ⟨x, y, z, hb⟩ := bring_f (rd_T45 ys i).f0 (rd_T45 ys i).f1 (rd_T45 ys i).f2.f0 (rd_T45 ys i).f2.f1
    rw [hb]
    simp only [Option.bind_some]
    obtain ⟨d', sw, sl, is, hdo, hg, hn, hff, hke⟩ := does_ex d hk (rd_T45 ys i).f0 x y z
    rw [hdo]
    simp only [Option.bind_some]
    have hl2 : c.w < d'.w ∨ (c.w = d'.w ∧ c.l ≤ d'.l) := by have := hg.le; omega
    rw [hw1]
    cases is with
    | false =>
      rw [if_neg (by simp)]
      exact ih (i + 1) d' k hg.ok (hff.trans hf) hl2 (by omega) (by omega)
    | true =>
      obtain ⟨rfl, rfl, hlt, hbd, hrd⟩ := hn rfl
      rw [if_pos rfl, last_f]
      simp only [Option.bind_some]
      rw [less_f _ _ _ _ _ (by omega), (lt_iff c.w c.l d'.w d'.l).2 (by omega)]
      simp only [Option.bind_some]
      rw [if_pos trivial]
      exact ih (i + 1) d' k hg.ok (hff.trans hf) hl2 (by omega) (by omega)
theorem second (xs ys : List S45) (i : Nat) (c : Ck) (k : Nat) (hk : c.ok) (hp : (c.w = 0 ∧ c.l = 0) ∨ c.w < c.b) (hd : 400 ≤ k) :
    scriptoriumlaw06_ClockAnew.j1 (k + 2) xs ys (i : Int) false c.o c.r c.f c.b c.w c.l true = some true := by
  have hk0 := hk
  unfold Ck.ok at hk0
  simp only [scriptoriumlaw06_ClockAnew.j1]
  rw [if_neg (by simp), bound_f]
  simp only [Option.bind_some]
  rw [new_f 30 c.b (by omega) (by omega)]
  simp only [Option.bind_some]
  obtain ⟨d, hd0⟩ : ∃ d, d = Ck.fresh 30 c.b := ⟨_, rfl⟩
  have hdk : d.ok := by rw [hd0]; exact Ck.fresh_ok 30 c.b (by omega) (by omega)
  have hdf : d.f = c.b := by rw [hd0]; rfl
  have hdl : ¬ (d.w < c.w ∨ (d.w = c.w ∧ d.l < c.l)) := by
    rw [hd0]
    unfold Ck.fresh
    dsimp only
    by_cases h : c.b = 0
    · rw [if_pos h, if_pos h]; omega
    · rw [if_neg h, if_neg h]; omega
  rw [← hd0, if_pos trivial, last_f]
  simp only [Option.bind_some]
  rw [last_f]
  simp only [Option.bind_some]
  rw [less_f _ _ _ _ _ (by omega), (lt_not d.w d.l c.w c.l).2 hdl]
  simp only [Option.bind_some]
  simp only [scriptoriumlaw06_ClockAnew.j2]
  rw [if_neg (by simp)]
  exact loop1 ys c 100 0 d k hdk hdf (by omega) (by omega) (by omega)
theorem bind_eq {α β : Type} {o : Option α} {a : α} {f : α → Option β} {r : Option β} (h : o = some a) (e : f a = r) : o.bind f = r := by rw [h]; exact e
theorem step0 (xs ys : List S45) (i : Nat) (c c' : Ck) (x y z sw sl : Int) (is : Bool) (k : Nat) (hi : i < 100) (hlen : (i : Int) < (xs.length : Int))
    (hb : scriptoriumlaw06_bring.f (rd_T45 xs i).f0 (rd_T45 xs i).f1 (rd_T45 xs i).f2.f0 (rd_T45 xs i).f2.f1 = some ((rd_T45 xs i).f0, x, y, z))
    (hdo : scriptoriumlaw06_does.f c.o c.r c.f c.b c.w c.l true (rd_T45 xs i).f0 x y z = some (sw, sl, is, c'.o, c'.r, c'.f, c'.b, c'.w, c'.l, true)) :
    scriptoriumlaw06_ClockAnew.j1 (k + 1) xs ys (i : Int) true c.o c.r c.f c.b c.w c.l true = scriptoriumlaw06_ClockAnew.l0 k xs ys ((i + 1 : Nat) : Int) c'.o c'.r c'.f c'.b c'.w c'.l true := by
  have hw1 : wrap64 ((i : Int) + 1) = ((i + 1 : Nat) : Int) := by unfold wrap64; omega
  rw [scriptoriumlaw06_ClockAnew.j1, if_pos rfl, if_pos (by omega), if_pos hlen]
  refine bind_eq hb ?_
  refine bind_eq hdo ?_
  dsimp only
  rw [hw1]
theorem loop0 (xs ys : List S45) : ∀ (n i : Nat) (c : Ck) (k : Nat), c.ok → ((c.w = 0 ∧ c.l = 0) ∨ c.w < c.b) → 100 ≤ i + n → 2 * n + 500 ≤ k →
    scriptoriumlaw06_ClockAnew.l0 k xs ys (i : Int) c.o c.r c.f c.b c.w c.l true = some true := by
  intro n
  induction n with
  | zero =>
    intro i c k hk hp hi hd
    obtain ⟨k, rfl⟩ : ∃ j, k = j + 3 := ⟨k - 3, by omega⟩
    simp only [scriptoriumlaw06_ClockAnew.l0]
    rw [show decide ((i : Int) < 100) = false from decide_eq_false (by omega), ite_self]
    exact second xs ys i c k hk hp (by omega)
  | succ n ih =>
    intro i c k hk hp hi hd
    obtain ⟨k, rfl⟩ : ∃ j, k = j + 3 := ⟨k - 3, by omega⟩
    by_cases h100 : 100 ≤ i
    · exact ih i c _ hk hp (by omega) (by omega)
    have hw1 : wrap64 ((i : Int) + 1) = ((i + 1 : Nat) : Int) := by unfold wrap64; omega
    simp only [scriptoriumlaw06_ClockAnew.l0]
    by_cases hlen : (i : Int) < (xs.length : Int)
    case neg =>
      rw [if_neg hlen]
      exact second xs ys i c k hk hp (by omega)
    rw [if_pos hlen, show decide ((i : Int) < 100) = true from decide_eq_true (by omega)]
    obtain ⟨x, y, z, hb⟩ := bring_f (rd_T45 xs i).f0 (rd_T45 xs i).f1 (rd_T45 xs i).f2.f0 (rd_T45 xs i).f2.f1
    obtain ⟨c', sw, sl, is, hdo, hg, hn, hff, hke⟩ := does_ex c hk (rd_T45 xs i).f0 x y z
    rw [step0 xs ys i c c' x y z sw sl is (k + 1) (by omega) hlen hb hdo]
    exact ih (i + 1) c' (k + 1) hg.ok (by have := hg.bound; omega) (by omega) (by omega)
theorem ClockAnew : scriptoriumlaw06_ClockAnew.Pure := by
  intro xs ys _ _
  obtain ⟨K, hK⟩ : ∃ K : Nat, K = 1000 := ⟨_, rfl⟩
  refine ⟨K, ?_⟩
  unfold scriptoriumlaw06_ClockAnew.f
  rw [new_f 30 0 (by omega) (by omega)]
  simp only [Option.bind_some]
  rw [if_pos trivial]
  have h := loop0 xs ys 100 0 (Ck.fresh 30 0) K (Ck.fresh_ok 30 0 (by omega) (by omega)) (.inl ⟨rfl, rfl⟩) (by omega) (by omega)
  exact h

end Go.Proofs.Ythhgoiabkgfdfaa.Pure
