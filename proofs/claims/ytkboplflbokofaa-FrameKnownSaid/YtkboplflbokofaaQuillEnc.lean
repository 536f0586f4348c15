/- Numbers as bytes, the highest one first, with their count ahead: there and back. Plain lists of whole numbers. -/
import Derived.Test.YtkboplflbokofaaQuill
set_option linter.unusedVariables false
set_option linter.unusedSimpArgs false
namespace Go.Proofs.Ytkboplflbokofaa
/-- The lowest byte first. -/
def qLE : List Int → Int
  | [] => 0
  | c :: t => c + 256 * qLE t
theorem qNum_eq (l : List Int) : qNum l = qLE l.reverse := by
  have h : ∀ (t : List Int), qNum t.reverse = qLE t := by
    intro t
    induction t with
    | nil => rfl
    | cons c t ih => rw [List.reverse_cons, qNum_snoc, ih]; show _ = c + 256 * qLE t; omega
  have := h l.reverse
  rwa [List.reverse_reverse] at this
/-- A number's bytes, the lowest one first. -/
def leD : Nat → Nat → List Int
  | 0, _ => []
  | f + 1, n => if n = 0 then [] else ((n % 256 : Nat) : Int) :: leD f (n / 256)
theorem leD_zero (f : Nat) : leD f 0 = [] := by cases f <;> simp [leD]
theorem leD_byts (f : Nat) : ∀ n, Byts (leD f n) := by
  induction f with
  | zero => intro n; exact Byts.nil
  | succ f ih =>
    intro n
    unfold leD
    split
    · exact Byts.nil
    · exact Byts.cons (by omega) (ih _)
theorem leD_val (f : Nat) : ∀ n, n < 256 ^ f → qLE (leD f n) = (n : Int) := by
  induction f with
  | zero => intro n h; simp at h; subst h; rfl
  | succ f ih =>
    intro n h
    unfold leD
    split
    · rename_i h0; subst h0; rfl
    · have h2 : n / 256 < 256 ^ f := by rw [Nat.pow_succ] at h; omega
      unfold qLE
      rw [ih _ h2]
      omega
theorem leD_len (f : Nat) : ∀ n j, n < 256 ^ j → (leD f n).length ≤ j := by
  induction f with
  | zero => intro n j _; exact Nat.zero_le _
  | succ f ih =>
    intro n j h
    unfold leD
    split
    · exact Nat.zero_le _
    · rename_i h0
      cases j with
      | zero => simp at h; omega
      | succ j =>
        have h2 : n / 256 < 256 ^ j := by rw [Nat.pow_succ] at h; omega
        have := ih _ j h2
        rw [List.length_cons]
        omega
theorem leD_last (f : Nat) : ∀ n, n < 256 ^ f → (leD f n).getLast? ≠ some 0 := by
  induction f with
  | zero => intro n _; simp [leD]
  | succ f ih =>
    intro n h
    unfold leD
    split
    · simp
    · rename_i h0
      have h2 : n / 256 < 256 ^ f := by rw [Nat.pow_succ] at h; omega
      by_cases hz : n / 256 = 0
      · rw [hz, leD_zero]
        simp
        omega
      · have := ih _ h2
        rw [List.getLast?_cons]
        cases hl : (leD f (n / 256)).getLast? with
        | none =>
          have hnil : leD f (n / 256) = [] := by simpa using hl
          have hv := leD_val f (n / 256) h2
          rw [hnil] at hv
          simp [qLE] at hv
          omega
        | some x =>
          rw [hl] at this
          simpa using this
theorem qLE_nonneg (t : List Int) (h : Byts t) : 0 ≤ qLE t := by
  induction t with
  | nil => exact Int.le_refl _
  | cons c t ih =>
    have := ih h.tail
    have hc := h c (by simp)
    unfold qLE
    omega
theorem qLE_zero (t : List Int) (h : Byts t) (hl : t.getLast? ≠ some 0) (hz : qLE t = 0) : t = [] := by
  induction t with
  | nil => rfl
  | cons c t ih =>
    exfalso
    have hc := h c (by simp)
    have hn := qLE_nonneg t h.tail
    unfold qLE at hz
    have h1 : qLE t = 0 := by omega
    have h2 : c = 0 := by omega
    cases t with
    | nil => simp at hl; exact hl h2
    | cons d t =>
      have hl2 : (d :: t).getLast? ≠ some 0 := by simpa [List.getLast?_cons] using hl
      have := ih h.tail hl2 h1
      cases this
/-- Bytes that do not end in a nought are a number's. -/
theorem leD_of (t : List Int) : ∀ f, Byts t → t.getLast? ≠ some 0 → t.length ≤ f → leD f (qLE t).toNat = t := by
  induction t with
  | nil => intro f _ _ _; exact leD_zero f
  | cons c t ih =>
    intro f h hl hf
    cases f with
    | zero => simp at hf
    | succ f =>
      have hc := h c (by simp)
      have hn := qLE_nonneg t h.tail
      have hne : (qLE (c :: t)).toNat ≠ 0 := by
        intro e
        have e2 : qLE (c :: t) = 0 := by have := qLE_nonneg (c :: t) h; omega
        have := qLE_zero (c :: t) h hl e2
        cases this
      unfold leD
      rw [if_neg hne]
      have e1 : (qLE (c :: t)).toNat / 256 = (qLE t).toNat := by show (c + 256 * qLE t).toNat / 256 = _; omega
      have e2 : (((qLE (c :: t)).toNat % 256 : Nat) : Int) = c := by show (((c + 256 * qLE t).toNat % 256 : Nat) : Int) = c; omega
      rw [e1, e2]
      congr 1
      cases t with
      | nil => exact leD_zero f
      | cons d t =>
        exact ih f h.tail (by simpa [List.getLast?_cons] using hl) (by simpa using hf)
/-- A number's bytes, the highest one first. -/
def enc (n : Nat) : List Int := (leD 8 n).reverse
def encN (n : Nat) : List Int := ((enc n).length : Int) :: enc n
theorem enc_byts (n : Nat) : Byts (enc n) := fun x hx => leD_byts 8 n x (List.mem_reverse.1 hx)
theorem enc_len (n : Nat) (h : n ≤ 9007199254740991) : (enc n).length ≤ 7 := by
  unfold enc
  rw [List.length_reverse]
  exact leD_len 8 n 7 (by have : (256 : Nat) ^ 7 = 72057594037927936 := by decide
                          omega)
theorem encN_byts (n : Nat) (h : n ≤ 9007199254740991) : Byts (encN n) := Byts.cons (by have := enc_len n h; omega) (enc_byts n)
theorem encN_len (n : Nat) (h : n ≤ 9007199254740991) : 1 ≤ (encN n).length ∧ (encN n).length ≤ 8 := by
  have := enc_len n h
  unfold encN
  rw [List.length_cons]
  omega
theorem lt_pow8 (n : Nat) (h : n ≤ 9007199254740991) : n < 256 ^ 8 := by
  have : (256 : Nat) ^ 8 = 18446744073709551616 := by decide
  omega
theorem enc_val (n : Nat) (h : n ≤ 9007199254740991) : qNum (enc n) = (n : Int) := by
  rw [qNum_eq]
  unfold enc
  rw [List.reverse_reverse]
  exact leD_val 8 n (lt_pow8 n h)
theorem enc_head (n : Nat) (h : n ≤ 9007199254740991) : (enc n).head? ≠ some 0 := by
  unfold enc
  rw [List.head?_reverse]
  exact leD_last 8 n (lt_pow8 n h)
/-- What is read is written so. -/
theorem enc_of (own : List Int) (h : Byts own) (h7 : own.length ≤ 8) (hh : own.head? ≠ some 0) : enc (qNum own).toNat = own := by
  rw [qNum_eq]
  unfold enc
  rw [leD_of own.reverse 8 (fun x hx => h x (List.mem_reverse.1 hx)) (by rw [List.getLast?_reverse]; exact hh) (by rw [List.length_reverse]; exact h7), List.reverse_reverse]
/-- What was written is read. -/
theorem qTake_encN (n : Nat) (h : n ≤ 9007199254740991) (rest : List Int) : qTake (encN n ++ rest) = ((n : Int), rest, 0) := by
  have hl := enc_len n h
  unfold encN
  rw [List.cons_append, qTake_cons, if_neg (by omega), if_neg (by rw [List.length_append]; omega)]
  have e1 : (enc n ++ rest).take ((enc n).length : Int).toNat = enc n := by rw [Int.toNat_natCast, List.take_left]
  have e2 : (enc n ++ rest).drop ((enc n).length : Int).toNat = rest := by rw [Int.toNat_natCast, List.drop_left]
  rw [e1, e2, enc_val n h, if_neg]
  rintro (h0 | h0)
  · exact enc_head n h h0
  · omega
/-- What is read was written. -/
theorem qTake_ok (l : List Int) (h : Byts l) (h0 : (qTake l).2.2 = 0) : ∃ n : Nat, n ≤ 9007199254740991 ∧ (qTake l).1 = (n : Int) ∧ l = encN n ++ (qTake l).2.1 := by
  cases l with
  | nil => exact absurd h0 (by decide)
  | cons b t =>
    have hb := h b (by simp)
    revert h0
    refine qTake_cases b t (fun p => p.2.2 = 0 → ∃ n : Nat, n ≤ 9007199254740991 ∧ p.1 = (n : Int) ∧ b :: t = encN n ++ p.2.1) (fun _ e => absurd e (by decide)) (fun _ _ e => absurd e (by decide)) (fun _ _ _ e => absurd e (by decide)) (fun h1 h2 h3 _ => ?_)
    have ho := h.tail.take b.toNat
    have hol : (t.take b.toNat).length = b.toNat := by rw [List.length_take]; omega
    have hv := (qNum_bd _ ho).1
    have hbig : ¬ 9007199254740991 < qNum (t.take b.toNat) := fun e => h3 (.inr e)
    refine ⟨(qNum (t.take b.toNat)).toNat, by omega, (Int.toNat_of_nonneg hv).symm, ?_⟩
    have he := enc_of (t.take b.toNat) ho (by omega) (fun e => h3 (.inl e))
    show b :: t = encN (qNum (t.take b.toNat)).toNat ++ t.drop b.toNat
    unfold encN
    rw [he, hol, List.cons_append, List.take_append_drop]
    congr 1
    omega
theorem qTake_err (l : List Int) (h0 : (qTake l).2.2 ≠ 0) : (qTake l).1 = 0 ∧ (qTake l).2.1 = [] ∧ ((qTake l).2.2 = 3 ∨ (qTake l).2.2 = 4) := by
  cases l with
  | nil => exact ⟨rfl, rfl, .inl rfl⟩
  | cons b t =>
    revert h0
    exact qTake_cases b t (fun p => p.2.2 ≠ 0 → p.1 = 0 ∧ p.2.1 = [] ∧ (p.2.2 = 3 ∨ p.2.2 = 4)) (fun _ _ => ⟨rfl, rfl, .inr rfl⟩) (fun _ _ _ => ⟨rfl, rfl, .inl rfl⟩) (fun _ _ _ _ => ⟨rfl, rfl, .inr rfl⟩) (fun _ _ _ e => absurd rfl e)
end Go.Proofs.Ytkboplflbokofaa
