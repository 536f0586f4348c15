/- What Max tells is one of them, and none of them is greater, in any order: the law StampGreatest, its pure statement. -/
import Derived.Test.YtnohoknhhlcefaaPStampGreatestx
set_option linter.unusedVariables false
set_option linter.unusedSimpArgs false
namespace Go.Proofs.Ytnohoknhhlcefaa.Pure
open Go.RowKit Go.Proofs.Ytnohoknhhlcefaa.PStampGreatest Go.Proofs.YtnohoknhhlcefaaW.PrintWords Go.Proofs.YtnohoknhhlcefaaW.PrintLast Go.Proofs.YtnohoknhhlcefaaW.PrintMore
theorem more_rounds {α : Type} {f : Nat → Option α} (h : ∀ k, LeO (f k) (f (k + 1))) {j k : Nat} (hjk : j ≤ k) {r : α} (e : f j = some r) : f k = some r := by
  induction k with
  | zero => obtain rfl : j = 0 := by omega
            exact e
  | succ k ih =>
    by_cases hj : j = k + 1
    · subst hj; exact e
    · exact h k r (ih (by omega))

/-- Is one stamp less than another one? -/
def ltS (a0 a1 b0 b1 : Int) : Bool := decide (a0 < b0) || (decide (a0 = b0) && decide (a1 < b1))
def cmp3 (a b : Int) : Int := if a < b then -1 else if a > b then 1 else 0
theorem compare_f (a b : Int) : cmp_Compare_int.f a b = some (cmp3 a b) := by
  unfold cmp_Compare_int.f cmp_isNaN_int.f cmp3
  simp only [Option.bind_some, bne_self_eq_false, Bool.false_eq_true, if_false]
  split
  · rfl
  · split <;> rfl
theorem or_f (k : Nat) (x y : Int) (hk : 5 < k) : cmp_Or_int.f k [x, y] = some (if x = 0 then y else x) := by
  obtain ⟨k, rfl⟩ : ∃ j, k = j + 3 := ⟨k - 3, by omega⟩
  have r0 : rd [x, y] 0 = x := rfl
  have r1 : rd [x, y] 1 = y := rfl
  have w0 : wrap64 (0 + 1) = 1 := by unfold wrap64; omega
  have w1 : wrap64 (1 + 1) = 2 := by unfold wrap64; omega
  have l2 : (([x, y] : List Int).length : Int) = 2 := rfl
  unfold cmp_Or_int.f
  rw [l2]
  simp only [cmp_Or_int.l0]
  rw [if_pos (by decide), if_pos (by decide), l2, if_pos (by decide), r0, w0]
  by_cases h : x = 0
  · rw [if_pos h, if_pos h, if_pos (by decide), if_pos (by decide), if_pos (by decide), r1, w1]
    by_cases h2 : y = 0
    · rw [if_pos h2, if_neg (by decide), h2]
    · rw [if_neg h2]
  · rw [if_neg h, if_neg h]
theorem stampcmp_f (k : Nat) (a0 a1 b0 b1 : Int) (hk : 5 < k) : stamp_compare.f k a0 a1 b0 b1 = some (if cmp3 a0 b0 = 0 then cmp3 a1 b1 else cmp3 a0 b0) := by
  unfold stamp_compare.f
  rw [compare_f, compare_f]
  simp only [Option.bind_some]
  rw [or_f k _ _ hk]
  rfl
theorem less_f (k : Nat) (a0 a1 b0 b1 : Int) (hk : 5 < k) : stamp_Less.f k a0 a1 b0 b1 = some (ltS a0 a1 b0 b1) := by
  unfold stamp_Less.f
  rw [stampcmp_f k a0 a1 b0 b1 hk]
  simp only [Option.bind_some]
  congr 1
  have e : (if cmp3 a0 b0 = 0 then cmp3 a1 b1 else cmp3 a0 b0) < 0 ↔ a0 < b0 ∨ (a0 = b0 ∧ a1 < b1) := by
    unfold cmp3
    repeat' split
    all_goals omega
  unfold ltS
  rw [Bool.eq_iff_iff]
  simp only [decide_eq_true_eq, Bool.or_eq_true, Bool.and_eq_true]
  exact e

theorem awake_f (k : Nat) (hk : 20 ≤ k) : scriptoriumlaw05_awake.f k = some true := more_rounds scriptoriumlaw05_awake.mono hk (by decide +kernel)

theorem rdT (l : List S23) (i : Nat) (h : i < l.length) : rd_T23 l (i : Int) = l[i] := by
  simp [rd_T23, List.getD_eq_getElem?_getD, List.getElem?_eq_getElem h]
theorem cmpS_pos (y m : S23) : 0 < cmpS y m ↔ (m.f0 < y.f0 ∨ (m.f0 = y.f0 ∧ m.f1 < y.f1)) := by
  unfold cmpS mcmp
  repeat' split
  all_goals omega

theorem max_fold : ∀ (t : List S23) (x : S23), (¬ 0 < cmpS x (t.foldl (fun m y => if 0 < cmpS y m then y else m) x)) ∧ ∀ y ∈ t, ¬ 0 < cmpS y (t.foldl (fun m y => if 0 < cmpS y m then y else m) x)
  | [], x => ⟨by show ¬ 0 < cmpS x x; rw [cmpS_pos]; omega, fun y hy => by cases hy⟩
  | c :: t, x => by
    obtain ⟨h1, h2⟩ := max_fold t (if 0 < cmpS c x then c else x)
    rw [List.foldl_cons]
    generalize List.foldl (fun m y => if 0 < cmpS y m then y else m) (if 0 < cmpS c x then c else x) t = m at *
    have hc : (¬ 0 < cmpS x m) ∧ ¬ 0 < cmpS c m := by
      by_cases h : 0 < cmpS c x
      · rw [if_pos h] at h1
        rw [cmpS_pos] at h h1 ⊢
        refine ⟨by omega, ?_⟩
        rw [cmpS_pos]
        omega
      · rw [if_neg h] at h1
        rw [cmpS_pos] at h h1 ⊢
        refine ⟨by omega, ?_⟩
        rw [cmpS_pos]
        omega
    refine ⟨hc.1, fun y hy => ?_⟩
    rcases List.mem_cons.1 hy with rfl | hy
    · exact hc.2
    · exact h2 y hy
theorem max_fold_mem : ∀ (t : List S23) (x : S23), t.foldl (fun m y => if 0 < cmpS y m then y else m) x ∈ x :: t
  | [], x => List.mem_cons_self
  | c :: t, x => by
    have h := max_fold_mem t (if 0 < cmpS c x then c else x)
    rw [List.foldl_cons]
    rcases List.mem_cons.1 h with h | h
    · rw [h]
      split
      · exact List.mem_cons_of_mem _ List.mem_cons_self
      · exact List.mem_cons_self
    · exact List.mem_cons_of_mem _ (List.mem_cons_of_mem _ h)
theorem maxS_mem (l : List S23) (h : l ≠ []) : maxS l ∈ l := by
  cases l with
  | nil => exact absurd rfl h
  | cons x t => exact max_fold_mem t x
theorem maxS_ge (l : List S23) : ∀ y ∈ l, ¬ 0 < cmpS y (maxS l) := by
  cases l with
  | nil => intro y hy; cases hy
  | cons x t =>
    intro y hy
    obtain ⟨h1, h2⟩ := max_fold t x
    rcases List.mem_cons.1 hy with rfl | hy
    · exact h1
    · exact h2 y hy
theorem cmpS_eq (a b : S23) (h1 : ¬ 0 < cmpS a b) (h2 : ¬ 0 < cmpS b a) : a = b := by
  rw [cmpS_pos] at h1 h2
  cases a with
  | mk a0 a1 =>
    cases b with
    | mk b0 b1 =>
      have h3 : a0 = b0 := by simp only at h1 h2; omega
      have h4 : a1 = b1 := by simp only at h1 h2; omega
      rw [h3, h4]
theorem maxS_uniq (l : List S23) (m : S23) (hm : m ∈ l) (h : ∀ y ∈ l, ¬ 0 < cmpS y m) : maxS l = m := by
  have hne : l ≠ [] := fun e => by rw [e] at hm; cases hm
  exact cmpS_eq _ _ (h _ (maxS_mem l hne)) (maxS_ge l m hm)

theorem bring_some (a n : Int) (h : 0 < n) (hn : n ≤ 4611686018427387904) : ∃ r, scriptoriumref00_Bring.f a n = some r ∧ 0 ≤ r ∧ r < n := by
  unfold scriptoriumref00_Bring.f
  have h1 := Int.tmod_lt_of_pos a h
  have h2 : -n < Int.tmod a n := by
    have := Int.lt_tmod_of_pos a h
    omega
  rw [if_neg (by omega), if_neg (by omega)]
  by_cases h3 : Int.tmod a n < 0
  · rw [if_pos h3]
    refine ⟨_, rfl, ?_⟩
    have : RowKit.wrap64 (Int.tmod a n + n) = Int.tmod a n + n := by unfold RowKit.wrap64; omega
    rw [this]
    omega
  · rw [if_neg h3]
    exact ⟨_, rfl, by omega, by omega⟩

theorem lt_cmpS (a b : S23) : ltS a.f0 a.f1 b.f0 b.f1 = decide (0 < cmpS b a) := by
  have e := cmpS_pos b a
  unfold ltS
  rw [Bool.eq_iff_iff]
  simp only [decide_eq_true_eq, Bool.or_eq_true, Bool.and_eq_true]
  exact e.symm
/-- So many of them, from another place on. -/
def turn (l : List S23) (r i : Nat) : List S23 := (List.range i).map fun j => l.getD ((j + r) % l.length) z23
theorem great_l0 (l : List S23) (a : Int) (r : Nat) (hr : r < l.length) (hl : l.length ≤ 50) (hb : scriptoriumref00_Bring.f a (l.length : Int) = some (r : Int)) : ∀ (d k i : Nat) (b : Bool), i + d = l.length →
    (b = true ∨ ∃ j, i ≤ j ∧ l[j]? = some (maxS l)) → 2 * d + 50 < k → scriptoriumlaw05_StampGreatest.l0 k l a b (turn l r i) (i : Int) (maxS l).f0 (maxS l).f1 = some true := by
  intro d
  induction d with
  | zero =>
    intro k i b h1 hb hk
    obtain ⟨k, rfl⟩ : ∃ j, k = j + 1 := ⟨k - 1, by omega⟩
    obtain rfl : i = l.length := by omega
    have hbt : b = true := by
      rcases hb with hb | ⟨j, hj, hj2⟩
      · exact hb
      · have := (List.getElem?_eq_some_iff.1 hj2).1
        omega
    subst hbt
    have hne : l ≠ [] := fun e => by rw [e] at hr; simp at hr
    obtain ⟨j, hj, hjm⟩ := List.getElem_of_mem (maxS_mem l hne)
    have hm : maxS (turn l r l.length) = maxS l := by
      refine maxS_uniq _ _ ?_ ?_
      · refine List.mem_map.2 ⟨(j + (l.length - r)) % l.length, List.mem_range.2 (Nat.mod_lt _ (by omega)), ?_⟩
        have e : ((j + (l.length - r)) % l.length + r) % l.length = j := by
          rw [Nat.mod_add_mod, show j + (l.length - r) + r = j + l.length by omega, Nat.add_mod_right, Nat.mod_eq_of_lt hj]
        rw [e, List.getD_eq_getElem?_getD, List.getElem?_eq_getElem hj, ← hjm]
        rfl
      · intro y hy
        obtain ⟨q, _, rfl⟩ := List.mem_map.1 hy
        have hq : (q + r) % l.length < l.length := Nat.mod_lt _ (by omega)
        rw [List.getD_eq_getElem?_getD, List.getElem?_eq_getElem hq]
        exact maxS_ge l _ (List.getElem_mem hq)
    have em : stamp_Max.f (turn l r l.length) = some ((maxS l).f0, (maxS l).f1) := by
      show some _ = _
      rw [hm]
    simp only [scriptoriumlaw05_StampGreatest.l0]
    rw [if_neg (by omega), if_pos trivial, em, awake_f k (by omega)]
    simp
  | succ d ih =>
    intro k i b h1 hbb hk
    obtain ⟨k, rfl⟩ : ∃ j, k = j + 2 := ⟨k - 2, by omega⟩
    have hi : i < l.length := by omega
    have hw : wrap64 ((i : Int) + 1) = ((i + 1 : Nat) : Int) := by unfold wrap64; omega
    have hge := maxS_ge l (l[i]) (List.getElem_mem hi)
    have hq : (i + r) % l.length < l.length := Nat.mod_lt _ (by omega)
    have hmod : Int.tmod (wrap64 ((i : Int) + (r : Int))) (l.length : Int) = (((i + r) % l.length : Nat) : Int) := by
      have e : wrap64 ((i : Int) + (r : Int)) = ((i + r : Nat) : Int) := by unfold wrap64; omega
      rw [e, Int.tmod_eq_emod_of_nonneg (by omega)]
      omega
    have ht : turn l r (i + 1) = turn l r i ++ [l[(i + r) % l.length]] := by
      unfold turn
      rw [List.range_succ, List.map_append, List.map_cons, List.map_nil, List.getD_eq_getElem?_getD, List.getElem?_eq_getElem hq]
      rfl
    have htl : (turn l r i).length = i := by simp [turn]
    have hstep : ∀ c : Bool, (c = true ∨ ∃ j, i + 1 ≤ j ∧ l[j]? = some (maxS l)) → scriptoriumlaw05_StampGreatest.j1 (k + 1) l a c (turn l r i) (i : Int) (maxS l).f0 (maxS l).f1 = some true := by
      intro c hc
      simp only [scriptoriumlaw05_StampGreatest.j1]
      rw [if_pos (by omega), if_pos (by omega), rdT l i hi, less_f k _ _ _ _ (by omega), lt_cmpS, decide_eq_false hge, hb]
      simp only [Option.bind_some, Bool.false_eq_true, if_false]
      rw [if_neg (by omega), hmod, if_pos (by omega), if_pos (by omega), rdT l _ hq, if_pos (by omega), hw]
      have := ih k (i + 1) c (by omega) hc (by omega)
      rw [ht] at this
      exact this
    simp only [scriptoriumlaw05_StampGreatest.l0]
    rw [if_pos (by omega)]
    by_cases hbt : b = true
    · rw [if_pos hbt]
      exact hstep true (.inl rfl)
    · rw [if_neg hbt, if_pos (by omega), rdT l i hi]
      refine hstep _ ?_
      rcases hbb with hbb | ⟨j, hj, hj2⟩
      · exact absurd hbb hbt
      · by_cases hji : j = i
        · subst hji
          rw [List.getElem?_eq_getElem hi] at hj2
          rw [Option.some.inj hj2]
          exact .inl (by simp)
        · exact .inr ⟨j, by omega, hj2⟩
theorem StampGreatest : scriptoriumlaw05_StampGreatest.Pure := by
  intro l0 a hl ha
  obtain ⟨hl1, hl2, _⟩ := hl
  obtain ⟨K, hK⟩ : ∃ K, K = 400 := ⟨_, rfl⟩
  refine ⟨K, ?_⟩
  have hn : 0 ≤ mn (l0.length : Int) 50 ∧ mn (l0.length : Int) 50 ≤ (l0.length : Int) ∧ mn (l0.length : Int) 50 ≤ 50 := by
    unfold mn
    split <;> omega
  obtain ⟨h0, h1, h2⟩ := hn
  unfold scriptoriumlaw05_StampGreatest.f
  rw [if_pos h0, if_pos h1]
  simp only [Option.bind_some]
  obtain ⟨l, hl⟩ : ∃ l, l = l0.take (mn (l0.length : Int) 50).toNat := ⟨_, rfl⟩
  have hll : l.length ≤ 50 := by rw [hl, List.length_take]; omega
  rw [← hl]
  by_cases hz : (l.length : Int) = 0
  · rw [if_pos hz]
    have em : stamp_Max.f ([] : List S23) = some (0, 0) := rfl
    rw [em, awake_f K (by omega)]
    rfl
  · rw [if_neg hz]
    have em : stamp_Max.f l = some ((maxS l).f0, (maxS l).f1) := rfl
    rw [em]
    obtain ⟨q, hq, hq0, hq1⟩ := bring_some a (l.length : Int) (by omega) (by omega)
    obtain ⟨r, rfl⟩ := Int.eq_ofNat_of_zero_le hq0
    have hne : l ≠ [] := fun e => hz (by rw [e]; rfl)
    obtain ⟨j, hj, hjm⟩ := List.getElem_of_mem (maxS_mem l hne)
    exact great_l0 l a r (by omega) hll hq l.length K 0 false (by omega) (.inr ⟨j, by omega, by rw [List.getElem?_eq_getElem hj, hjm]⟩) (by omega)

end Go.Proofs.Ytnohoknhhlcefaa.Pure
