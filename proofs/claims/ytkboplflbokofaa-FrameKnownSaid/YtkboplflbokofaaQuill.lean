/- Plain mathematics of numbers and texts as bytes: lists of whole numbers, without Go and memory. -/
import Derived.Laws.BitsLemmas
import Derived.RowKit
set_option linter.unusedVariables false
set_option linter.unusedSimpArgs false
namespace Go.Proofs.Ytkboplflbokofaa
/-- Numbers that are bytes. -/
def Byts (l : List Int) : Prop := ∀ x ∈ l, 0 ≤ x ∧ x < 256
def isByts (l : List Int) : Bool := l.all fun x => decide (0 ≤ x) && decide (x < 256)
theorem isByts_iff (l : List Int) : isByts l = true ↔ Byts l := by
  unfold isByts Byts
  simp [List.all_eq_true]
/-- What bytes come to, the highest one first. -/
def qNum (l : List Int) : Int := l.foldl (fun n c => n * 256 + c) 0
def qTake : List Int → Int × List Int × Int
  | [] => (0, [], 3)
  | b :: t =>
    if 7 < b then (0, [], 4)
    else if (t.length : Int) < b then (0, [], 3)
    else if (t.take b.toNat).head? = some 0 ∨ 9007199254740991 < qNum (t.take b.toNat) then (0, [], 4)
    else (qNum (t.take b.toNat), t.drop b.toNat, 0)
theorem qTake_cons (b : Int) (t : List Int) : qTake (b :: t) = if 7 < b then (0, [], 4) else if (t.length : Int) < b then (0, [], 3)
    else if (t.take b.toNat).head? = some 0 ∨ 9007199254740991 < qNum (t.take b.toNat) then (0, [], 4) else (qNum (t.take b.toNat), t.drop b.toNat, 0) := rfl
theorem foldl_bd (l : List Int) (h : Byts l) : ∀ n : Int, 0 ≤ n → 0 ≤ l.foldl (fun n c => n * 256 + c) n ∧ l.foldl (fun n c => n * 256 + c) n < (n + 1) * 256 ^ l.length := by
  induction l with
  | nil => intro n hn; simp; omega
  | cons c l ih =>
    intro n hn
    have hc := h c (by simp)
    have := ih (fun x hx => h x (List.mem_cons_of_mem _ hx)) (n * 256 + c) (by omega)
    refine ⟨this.1, ?_⟩
    rw [List.foldl_cons]
    refine Int.lt_of_lt_of_le this.2 ?_
    rw [List.length_cons, Int.pow_succ, Int.mul_comm (256 ^ l.length) 256, ← Int.mul_assoc]
    exact Int.mul_le_mul_of_nonneg_right (by omega) (Int.pow_nonneg (by omega))
theorem qNum_bd (l : List Int) (h : Byts l) : 0 ≤ qNum l ∧ qNum l < 256 ^ l.length := by
  have := foldl_bd l h 0 (by omega)
  simpa [qNum] using this
theorem qNum_snoc (l : List Int) (c : Int) : qNum (l ++ [c]) = qNum l * 256 + c := by unfold qNum; rw [List.foldl_append]; rfl
theorem wraps_i64 (n : Int) (h0 : 0 ≤ n) (h1 : n < 2 ^ 63) : IntKind.i64.wrap n = n := by rw [IntKind.wrap_i64]; omega
/-- One byte more, as the code takes it. -/
theorem or_shift (n c : Int) (h0 : 0 ≤ n) (h1 : n < 281474976710656) (c0 : 0 ≤ c) (c1 : c < 256) : Go.bits .or .i64 (n * 256) c = n * 256 + c := by
  have := bits_join .i64 63 (by decide) wraps_i64 8 (n * 256) c (by omega) (by omega) (by omega) c0 (by omega) (by omega)
  exact this
/-- The cases of a number's taking. -/
theorem qTake_cases (b : Int) (t : List Int) (P : Int × List Int × Int → Prop)
    (h1 : 7 < b → P (0, [], 4)) (h2 : ¬ 7 < b → (t.length : Int) < b → P (0, [], 3))
    (h3 : ¬ 7 < b → ¬ (t.length : Int) < b → ((t.take b.toNat).head? = some 0 ∨ 9007199254740991 < qNum (t.take b.toNat)) → P (0, [], 4))
    (h4 : ¬ 7 < b → ¬ (t.length : Int) < b → ¬ ((t.take b.toNat).head? = some 0 ∨ 9007199254740991 < qNum (t.take b.toNat)) → P (qNum (t.take b.toNat), t.drop b.toNat, 0)) : P (qTake (b :: t)) := by
  simp only [qTake]
  by_cases a1 : 7 < b
  · rw [if_pos a1]; exact h1 a1
  · rw [if_neg a1]
    by_cases a2 : (t.length : Int) < b
    · rw [if_pos a2]; exact h2 a1 a2
    · rw [if_neg a2]
      by_cases a3 : (t.take b.toNat).head? = some 0 ∨ 9007199254740991 < qNum (t.take b.toNat)
      · rw [if_pos a3]; exact h3 a1 a2 a3
      · rw [if_neg a3]; exact h4 a1 a2 a3
theorem Byts.take {l : List Int} (h : Byts l) (n : Nat) : Byts (l.take n) := fun x hx => h x (List.mem_of_mem_take hx)
theorem Byts.drop {l : List Int} (h : Byts l) (n : Nat) : Byts (l.drop n) := fun x hx => h x (List.mem_of_mem_drop hx)
theorem Byts.tail {b : Int} {t : List Int} (h : Byts (b :: t)) : Byts t := fun x hx => h x (List.mem_cons_of_mem _ hx)
theorem Byts.append {l m : List Int} (h : Byts l) (h' : Byts m) : Byts (l ++ m) := fun x hx => (List.mem_append.1 hx).elim (h x) (h' x)
theorem Byts.nil : Byts [] := fun x hx => by cases hx
theorem Byts.cons {b : Int} {t : List Int} (hb : 0 ≤ b ∧ b < 256) (h : Byts t) : Byts (b :: t) := fun x hx => by
  rcases List.mem_cons.1 hx with rfl | hx
  · exact hb
  · exact h x hx
theorem qTake_byts (l : List Int) (h : Byts l) : Byts (qTake l).2.1 := by
  cases l with
  | nil => exact Byts.nil
  | cons b t => exact qTake_cases b t (fun p => Byts p.2.1) (fun _ => Byts.nil) (fun _ _ => Byts.nil) (fun _ _ _ => Byts.nil) (fun _ _ _ => h.tail.drop _)
theorem qTake_bd (l : List Int) (h : Byts l) : 0 ≤ (qTake l).1 ∧ (qTake l).1 ≤ 9007199254740991 := by
  cases l with
  | nil => exact ⟨by decide, by decide⟩
  | cons b t =>
    refine qTake_cases b t (fun p => 0 ≤ p.1 ∧ p.1 ≤ 9007199254740991) (fun _ => ⟨by decide, by decide⟩) (fun _ _ => ⟨by decide, by decide⟩) (fun _ _ _ => ⟨by decide, by decide⟩) (fun _ _ h4 => ⟨(qNum_bd _ (h.tail.take _)).1, ?_⟩)
    have : ¬ 9007199254740991 < qNum (t.take b.toNat) := fun e => h4 (.inr e)
    show qNum (t.take b.toNat) ≤ _
    omega
theorem qTake_len (l : List Int) : (qTake l).2.1.length ≤ l.length := by
  cases l with
  | nil => exact Nat.le_refl _
  | cons b t =>
    refine qTake_cases b t (fun p => p.2.1.length ≤ (b :: t).length) (fun _ => Nat.zero_le _) (fun _ _ => Nat.zero_le _) (fun _ _ _ => Nat.zero_le _) (fun _ _ _ => ?_)
    show (t.drop b.toNat).length ≤ _
    rw [List.length_drop, List.length_cons]
    omega
end Go.Proofs.Ytkboplflbokofaa
