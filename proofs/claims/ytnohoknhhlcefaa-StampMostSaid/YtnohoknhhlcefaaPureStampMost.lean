/- The greatest one of some: the law StampMost, its pure statement. -/
import Derived.Test.YtnohoknhhlcefaaPStampMostx
set_option linter.unusedVariables false
set_option linter.unusedSimpArgs false
namespace Go.Proofs.Ytnohoknhhlcefaa.Pure
open Go.RowKit Go.Proofs.Ytnohoknhhlcefaa.PStampMost Go.Proofs.YtnohoknhhlcefaaW.PrintWords Go.Proofs.YtnohoknhhlcefaaW.PrintLast Go.Proofs.YtnohoknhhlcefaaW.PrintMore
theorem more_rounds {α : Type} {f : Nat → Option α} (h : ∀ k, LeO (f k) (f (k + 1))) {j k : Nat} (hjk : j ≤ k) {r : α} (e : f j = some r) : f k = some r := by
  induction k with
  | zero => obtain rfl : j = 0 := by omega
            exact e
  | succ k ih =>
    by_cases hj : j = k + 1
    · subst hj; exact e
    · exact h k r (ih (by omega))

theorem awake_f (k : Nat) (hk : 20 ≤ k) : scriptoriumlaw05_awake.f k = some true := more_rounds scriptoriumlaw05_awake.mono hk (by decide +kernel)

theorem rdT (l : List S23) (i : Nat) (h : i < l.length) : rd_T23 l (i : Int) = l[i] := by
  simp [rd_T23, List.getD_eq_getElem?_getD, List.getElem?_eq_getElem h]
theorem cmpS_pos (y m : S23) : 0 < cmpS y m ↔ (m.f0 < y.f0 ∨ (m.f0 = y.f0 ∧ m.f1 < y.f1)) := by
  unfold cmpS mcmp
  repeat' split
  all_goals omega

theorem two_f (m y : S23) : scriptoriumref05_Two.f m.f0 m.f1 y.f0 y.f1 = some ((if 0 < cmpS y m then y else m).f0, (if 0 < cmpS y m then y else m).f1) := by
  unfold scriptoriumref05_Two.f scriptoriumref05_Less.f
  have e := cmpS_pos y m
  by_cases h : 0 < cmpS y m
  · rw [if_pos h]
    rcases e.1 h with h1 | ⟨h1, h2⟩
    · rw [if_pos h1]; rfl
    · rw [if_neg (by omega), if_pos h1, decide_eq_true h2]; rfl
  · rw [if_neg h]
    have h2 : ¬ (m.f0 < y.f0 ∨ (m.f0 = y.f0 ∧ m.f1 < y.f1)) := fun q => h (e.2 q)
    rw [if_neg (by omega)]
    by_cases h3 : m.f0 = y.f0
    · rw [if_pos h3, decide_eq_false (by omega)]; rfl
    · rw [if_neg h3]; rfl
theorem refmax_l0 (l : List S23) (hl : l.length ≤ 140737488351232) : ∀ (d k i : Nat), i + d = l.length → 1 ≤ i → d < k →
    scriptoriumref05_Max.l0 k l (i : Int) (maxS (l.take i)).f0 (maxS (l.take i)).f1 = some ((maxS l).f0, (maxS l).f1) := by
  intro d
  induction d with
  | zero =>
    intro k i h1 h2 hk
    obtain ⟨k, rfl⟩ : ∃ j, k = j + 1 := ⟨k - 1, by omega⟩
    obtain rfl : i = l.length := by omega
    simp only [scriptoriumref05_Max.l0]
    rw [if_neg (by omega), List.take_length]
  | succ d ih =>
    intro k i h1 h2 hk
    obtain ⟨k, rfl⟩ : ∃ j, k = j + 1 := ⟨k - 1, by omega⟩
    have hi : i < l.length := by omega
    have hne : l.take i ≠ [] := fun e => by
      have h3 : (l.take i).length = 0 := by rw [e]; rfl
      rw [List.length_take] at h3
      omega
    have hsn := maxS_snoc (l.take i) hne (l[i])
    rw [← List.take_succ_eq_append_getElem hi] at hsn
    simp only [scriptoriumref05_Max.l0]
    have hw : wrap64 ((i : Int) + 1) = ((i + 1 : Nat) : Int) := by unfold wrap64; omega
    rw [if_pos (by omega), if_pos (by omega), rdT l i hi, two_f, ← hsn, hw]
    exact ih k (i + 1) (by omega) (by omega) (by omega)
theorem refmax_f (l : List S23) (hl : l.length ≤ 140737488351232) (k : Nat) (hk : l.length < k) : scriptoriumref05_Max.f k l = some ((maxS l).f0, (maxS l).f1) := by
  unfold scriptoriumref05_Max.f
  cases l with
  | nil => rfl
  | cons x t =>
    have hl2 : (x :: t).length = t.length + 1 := rfl
    have h0 : rd_T23 (x :: t) 0 = x := rfl
    rw [if_neg (by omega), if_pos (by omega), h0]
    exact refmax_l0 (x :: t) hl t.length k 1 (by omega) (by omega) (by omega)
theorem most_l0 (l : List S23) (hl : l.length ≤ 140737488351232) : ∀ (d k i : Nat), i + d = l.length → d + 30 < k → scriptoriumlaw05_StampMost.l0 k l l (i : Int) = some true := by
  intro d
  induction d with
  | zero =>
    intro k i h1 hk
    obtain ⟨k, rfl⟩ : ∃ j, k = j + 1 := ⟨k - 1, by omega⟩
    simp only [scriptoriumlaw05_StampMost.l0]
    rw [if_neg (by omega), awake_f k (by omega)]
    rfl
  | succ d ih =>
    intro k i h1 hk
    obtain ⟨k, rfl⟩ : ∃ j, k = j + 1 := ⟨k - 1, by omega⟩
    simp only [scriptoriumlaw05_StampMost.l0]
    have hw : wrap64 ((i : Int) + 1) = ((i + 1 : Nat) : Int) := by unfold wrap64; omega
    rw [if_pos (by omega), if_pos (by omega), if_pos (by omega), if_neg (by simp), hw]
    exact ih k (i + 1) (by omega) (by omega)
theorem StampMost : scriptoriumlaw05_StampMost.Pure := by
  intro l hl
  obtain ⟨hl1, hl2, _⟩ := hl
  obtain ⟨K, hK⟩ : ∃ K, K = l.length + 100 := ⟨_, rfl⟩
  refine ⟨K, ?_⟩
  unfold scriptoriumlaw05_StampMost.f
  have em : stamp_Max.f l = some ((maxS l).f0, (maxS l).f1) := rfl
  rw [if_pos (by simp; omega), List.nil_append]
  simp only [Option.bind_some]
  rw [em, refmax_f l (by omega) K (by omega)]
  simp only [Option.bind_some]
  rw [if_neg (by simp)]
  exact most_l0 l (by omega) l.length K 0 (by omega) (by omega)

end Go.Proofs.Ytnohoknhhlcefaa.Pure
