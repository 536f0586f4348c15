/- What Next and All tell is the document's: the law FrameReads (up to the bulk), its pure statement. -/
import Derived.Test.YtkboplflbokofaaPFrameReadsx
import Derived.Test.YtkboplflbokofaaQuillEnc
set_option linter.unusedVariables false
set_option linter.unusedSimpArgs false
namespace Go.Proofs.Ytkboplflbokofaa.Pure
open Go.RowKit Go.Proofs.Ytkboplflbokofaa.PFrameReads Go.Proofs.YtkboplflbokofaaW.PrintWords Go.Proofs.YtkboplflbokofaaW.PrintLast Go.Proofs.YtkboplflbokofaaW.PrintMore
theorem wrap64_id (x : Int) (h0 : -9223372036854775808 ≤ x) (h1 : x < 9223372036854775808) : wrap64 x = x := by unfold wrap64; omega
theorem rd_get (l : List Int) (i : Nat) (h : i < l.length) : rd l (i : Int) = l[i] := by
  simp [rd, List.getD_eq_getElem?_getD, List.getElem?_eq_getElem h]
theorem eqB_l0 (l m : List Int) (hl : l.length = m.length) (hm : l.length ≤ 9223372036854775807) : ∀ (d k i : Nat), i + d = l.length → d < k →
    scriptoriumref00_EqBytes.l0 k l m (i : Int) = some (decide (l.drop i = m.drop i)) := by
  intro d
  induction d with
  | zero =>
    intro k i h1 hk
    obtain ⟨k, rfl⟩ : ∃ j, k = j + 1 := ⟨k - 1, by omega⟩
    simp only [scriptoriumref00_EqBytes.l0]
    rw [if_neg (by omega), List.drop_of_length_le (by omega), List.drop_of_length_le (by omega)]
    simp
  | succ d ih =>
    intro k i h1 hk
    obtain ⟨k, rfl⟩ : ∃ j, k = j + 1 := ⟨k - 1, by omega⟩
    have hil : i < l.length := by omega
    have him : i < m.length := by omega
    simp only [scriptoriumref00_EqBytes.l0]
    rw [if_pos (by omega), if_pos (by omega), if_pos (by omega), rd_get l i hil, rd_get m i him, wrap64_id _ (by omega) (by omega)]
    have e : ((i : Int) + 1) = ((i + 1 : Nat) : Int) := by omega
    rw [e, ih k (i + 1) (by omega) (by omega)]
    have e1 := List.drop_eq_getElem_cons hil
    have e2 := List.drop_eq_getElem_cons him
    rw [e1, e2]
    by_cases hx : l[i] = m[i]
    · rw [if_pos hx, hx]
      congr 1
      apply decide_eq_decide.2
      constructor
      · intro h; rw [h]
      · intro h; exact (List.cons.inj h).2
    · rw [if_neg hx]
      have : ¬ (l[i] :: l.drop (i + 1) = m[i] :: m.drop (i + 1)) := fun h => hx (List.cons.inj h).1
      rw [decide_eq_false this]
theorem eqB (k : Nat) (l m : List Int) (hm : l.length ≤ 9223372036854775807) (hk : l.length < k) : scriptoriumref00_EqBytes.f k l m = some (decide (l = m)) := by
  unfold scriptoriumref00_EqBytes.f
  by_cases hl : l.length = m.length
  · rw [if_pos (by omega)]
    have := eqB_l0 l m hl hm l.length k 0 (by omega) hk
    simpa using this
  · rw [if_neg (by omega)]
    have : ¬ l = m := fun e => hl (by rw [e])
    simp [this]

theorem copyB (l : List Int) (h : l.length * 1 ≤ 140737488351232) : scriptoriumref00_CopyBytes.f l = some l := by
  unfold scriptoriumref00_CopyBytes.f
  rw [if_pos (by simp; omega)]
  rfl

theorem more_rounds {α : Type} {f : Nat → Option α} (h : ∀ k, LeO (f k) (f (k + 1))) {j k : Nat} (hjk : j ≤ k) {r : α} (e : f j = some r) : f k = some r := by
  induction k with
  | zero => obtain rfl : j = 0 := by omega
            exact e
  | succ k ih =>
    by_cases hj : j = k + 1
    · subst hj; exact e
    · exact h k r (ih (by omega))

theorem rev_loop (l : List Int) (hn : l.length ≤ 4611686018427387904) : ∀ (d k i : Nat) (cur : List Int), i + d = l.length / 2 → d < k → cur.length = l.length →
    (∀ p, p < l.length → cur[p]? = if p < i ∨ l.length - 1 - p < i then l[l.length - 1 - p]? else l[p]?) →
    slices_Reverse_byte_byte.l0 k cur (i : Int) ((l.length : Int) - 1 - (i : Int)) = some l.reverse := by
  intro d
  induction d with
  | zero =>
    intro k i cur h1 hk hl hc
    obtain ⟨k, rfl⟩ : ∃ j, k = j + 1 := ⟨k - 1, by omega⟩
    simp only [slices_Reverse_byte_byte.l0]
    rw [if_neg (by omega)]
    congr 1
    apply List.ext_getElem?
    intro p
    by_cases hp : p < l.length
    · rw [hc p hp, List.getElem?_reverse hp]
      by_cases h2 : p < i ∨ l.length - 1 - p < i
      · rw [if_pos h2]
      · rw [if_neg h2]
        congr 1
        omega
    · rw [List.getElem?_eq_none (by omega), List.getElem?_eq_none (by rw [List.length_reverse]; omega)]
  | succ d ih =>
    intro k i cur h1 hk hl hc
    obtain ⟨k, rfl⟩ : ∃ j, k = j + 1 := ⟨k - 1, by omega⟩
    obtain ⟨j, hj⟩ : ∃ j : Nat, (l.length : Int) - 1 - (i : Int) = (j : Int) := ⟨l.length - 1 - i, by omega⟩
    have hij : i < j := by omega
    have hjl : j < l.length := by omega
    have w1 : RowKit.wrap64 ((i : Int) + 1) = ((i + 1 : Nat) : Int) := by unfold RowKit.wrap64; omega
    have w2 : RowKit.wrap64 ((j : Int) - 1) = (l.length : Int) - 1 - ((i + 1 : Nat) : Int) := by unfold RowKit.wrap64; omega
    simp only [slices_Reverse_byte_byte.l0]
    rw [hj, if_pos (by omega), if_pos (by omega), if_pos (by omega), if_pos (by omega), if_pos (by omega), w1, w2, Int.toNat_natCast, Int.toNat_natCast, rd_get cur j (by omega), rd_get cur i (by omega)]
    have hci := hc i (by omega)
    have hcj := hc j hjl
    rw [if_neg (by omega), List.getElem?_eq_getElem (by omega), List.getElem?_eq_getElem (by omega)] at hci hcj
    have hci' := Option.some.inj hci
    have hcj' := Option.some.inj hcj
    refine ih k (i + 1) _ (by omega) (by omega) (by rw [List.length_set, List.length_set]; exact hl) ?_
    intro p hp
    rw [List.getElem?_set, List.getElem?_set, List.length_set]
    by_cases e1 : j = p
    · subst e1
      rw [if_pos rfl, if_pos (by omega), if_pos (by omega), hci', ← List.getElem?_eq_getElem]
      congr 1
      omega
    · rw [if_neg e1]
      by_cases e2 : i = p
      · subst e2
        rw [if_pos rfl, if_pos (by omega), if_pos (by omega), hcj', ← List.getElem?_eq_getElem]
        congr 1
        omega
      · rw [if_neg e2, hc p hp]
        by_cases h2 : p < i ∨ l.length - 1 - p < i
        · rw [if_pos h2, if_pos (by omega)]
        · rw [if_neg h2, if_neg (by omega)]
theorem rev_f (k : Nat) (l : List Int) (hn : l.length ≤ 4611686018427387904) (hk : l.length / 2 < k) : slices_Reverse_byte_byte.f k l = some l.reverse := by
  unfold slices_Reverse_byte_byte.f
  have w : RowKit.wrap64 ((l.length : Int) - 1) = (l.length : Int) - 1 - ((0 : Nat) : Int) := by unfold RowKit.wrap64; omega
  rw [w]
  have h := rev_loop l hn (l.length / 2) k 0 l (by omega) hk rfl (fun p hp => by rw [if_neg (by omega)])
  rw [show ((0 : Nat) : Int) = 0 from rfl] at h ⊢
  exact h

/-- What Num answers. -/
def numOf (n : Int) : List Int × Int := if n < 0 ∨ 9007199254740991 < n then ([], 2) else (encN n.toNat, 0)
theorem leD_stable (f : Nat) : ∀ n j, n < 256 ^ j → j ≤ f → leD f n = leD j n := by
  induction f with
  | zero => intro n j _ h2; obtain rfl : j = 0 := by omega
            rfl
  | succ f ih =>
    intro n j h hj
    cases j with
    | zero => simp at h; subst h; rw [leD_zero, leD_zero]
    | succ j =>
      unfold leD
      by_cases h0 : n = 0
      · rw [if_pos h0, if_pos h0]
      · rw [if_neg h0, if_neg h0, ih (n / 256) j (by rw [Nat.pow_succ] at h; omega) (by omega)]
theorem num_l0 : ∀ (d k n : Nat) (acc : List Int), n < 256 ^ d → acc.length + d ≤ 100 → d + 60 < k →
    quill_Num.l0 k (n : Int) acc = some ((((acc ++ leD d n).length : Int)) % 256 :: (acc ++ leD d n).reverse, 0) := by
  intro d
  induction d with
  | zero =>
    intro k n acc h hl hk
    obtain ⟨k, rfl⟩ : ∃ j, k = j + 1 := ⟨k - 1, by omega⟩
    simp at h
    subst h
    simp only [quill_Num.l0]
    rw [if_neg (by omega), rev_f k acc (by omega) (by omega)]
    simp only [Option.bind_some]
    rw [if_pos (by simp; omega), leD_zero, List.append_nil]
    rfl
  | succ d ih =>
    intro k n acc h hl hk
    obtain ⟨k, rfl⟩ : ∃ j, k = j + 1 := ⟨k - 1, by omega⟩
    simp only [quill_Num.l0]
    by_cases h0 : n = 0
    · subst h0
      rw [if_neg (by omega), rev_f k acc (by omega) (by omega)]
      simp only [Option.bind_some]
      rw [if_pos (by simp; omega), leD_zero, List.append_nil]
      rfl
    · have h2 : n / 256 < 256 ^ d := by rw [Nat.pow_succ] at h; omega
      rw [if_pos (by omega), if_pos (by omega)]
      have e1 : ((n : Int) / 256) = ((n / 256 : Nat) : Int) := by omega
      have e2 : ((n : Int) % 256) = ((n % 256 : Nat) : Int) := by omega
      rw [e1, e2, ih k (n / 256) _ h2 (by rw [List.length_append]; simp; omega) (by omega)]
      have e3 : leD (d + 1) n = ((n % 256 : Nat) : Int) :: leD d (n / 256) := by
        show (if n = 0 then _ else _) = _
        rw [if_neg h0]
      rw [e3, List.append_assoc]
      rfl
theorem num_f (k : Nat) (n : Int) (hk : 80 < k) : quill_Num.f k n = some (numOf n) := by
  obtain ⟨k, rfl⟩ : ∃ j, k = j + 1 := ⟨k - 1, by omega⟩
  unfold quill_Num.f
  simp only [quill_Num.j0]
  by_cases h1 : n < 0
  · have e : numOf n = ([], 2) := if_pos (.inl h1)
    rw [if_pos h1, if_pos trivial, e]
  · rw [if_neg h1]
    by_cases h2 : 9007199254740991 < n
    · have e : numOf n = ([], 2) := if_pos (.inr h2)
      rw [if_pos (decide_eq_true h2), e]
    · have hd : decide (n > 9007199254740991) = false := decide_eq_false h2
      have e : numOf n = (encN n.toNat, 0) := if_neg (by omega)
      rw [hd, if_neg (by simp), e]
      obtain ⟨m, rfl⟩ := Int.eq_ofNat_of_zero_le (show 0 ≤ n by omega)
      rw [num_l0 8 k m [] (lt_pow8 m (by omega)) (by simp) (by omega)]
      have hl := enc_len m (by omega)
      unfold encN enc
      unfold enc at hl
      rw [List.length_reverse] at hl ⊢
      rw [List.nil_append, Int.toNat_natCast]
      congr 3
      omega

theorem refnum_l0 : ∀ (d k n : Nat) (acc : List Int), n < 256 ^ d → n ≤ 9007199254740991 → acc.length + d ≤ 100 → d < k →
    scriptoriumref01_Num.l0 k (n : Int) acc = some ((((leD d n).reverse ++ acc).length : Int) % 256 :: ((leD d n).reverse ++ acc), 0) := by
  intro d
  induction d with
  | zero =>
    intro k n acc h hbig hl hk
    obtain ⟨k, rfl⟩ : ∃ j, k = j + 1 := ⟨k - 1, by omega⟩
    simp at h
    subst h
    simp only [scriptoriumref01_Num.l0]
    rw [if_neg (by omega)]
    simp only [Option.bind_some]
    rw [if_pos (by simp; omega), leD_zero]
    rfl
  | succ d ih =>
    intro k n acc h hbig hl hk
    obtain ⟨k, rfl⟩ : ∃ j, k = j + 1 := ⟨k - 1, by omega⟩
    simp only [scriptoriumref01_Num.l0]
    by_cases h0 : n = 0
    · subst h0
      rw [if_neg (by omega)]
      simp only [Option.bind_some]
      rw [if_pos (by simp; omega), leD_zero]
      rfl
    · have h2 : n / 256 < 256 ^ d := by rw [Nat.pow_succ] at h; omega
      rw [if_pos (by omega)]
      simp only [Option.bind_some]
      · have e1 : RowKit.wrap64 (Int.tdiv (n : Int) 256) = ((n / 256 : Nat) : Int) := by
          rw [Int.tdiv_eq_ediv_of_nonneg (by omega)]; unfold RowKit.wrap64; omega
        have e2 : Int.tmod (n : Int) 256 % 256 = ((n % 256 : Nat) : Int) := by
          rw [Int.tmod_eq_emod_of_nonneg (by omega)]; omega
        rw [if_pos (by simp; omega), e1, e2, ih k (n / 256) _ h2 (by omega) (by rw [List.length_append]; simp; omega) (by omega)]
        have e3 : leD (d + 1) n = ((n % 256 : Nat) : Int) :: leD d (n / 256) := by
          show (if n = 0 then _ else _) = _
          rw [if_neg h0]
        rw [e3, List.reverse_cons, List.append_assoc]
theorem refnum_f (k : Nat) (n : Int) (hk : 80 < k) : scriptoriumref01_Num.f k n = some (numOf n) := by
  obtain ⟨k, rfl⟩ : ∃ j, k = j + 1 := ⟨k - 1, by omega⟩
  unfold scriptoriumref01_Num.f
  simp only [scriptoriumref01_Num.j0]
  by_cases h1 : n < 0
  · have e : numOf n = ([], 2) := if_pos (.inl h1)
    rw [if_pos h1, if_pos trivial, e]
  · rw [if_neg h1]
    by_cases h2 : 9007199254740991 < n
    · have e : numOf n = ([], 2) := if_pos (.inr h2)
      rw [if_pos (decide_eq_true h2), e]
    · have hd : decide (n > 9007199254740991) = false := decide_eq_false h2
      have e : numOf n = (encN n.toNat, 0) := if_neg (by omega)
      rw [hd, if_neg (by simp), e]
      obtain ⟨m, rfl⟩ := Int.eq_ofNat_of_zero_le (show 0 ≤ n by omega)
      rw [refnum_l0 8 k m [] (lt_pow8 m (by omega)) (by omega) (by simp) (by omega)]
      have hl := enc_len m (by omega)
      unfold encN
      unfold enc at hl ⊢
      rw [List.append_nil, Int.toNat_natCast]
      congr 3
      omega

theorem qNum_lt7 (t : List Int) (ht : Byts t) (i : Nat) (hi : i ≤ 7) : 0 ≤ qNum (t.take i) ∧ qNum (t.take i) < 72057594037927936 := by
  obtain ⟨h0, h1⟩ := qNum_bd (t.take i) (ht.take i)
  refine ⟨h0, Int.lt_of_lt_of_le h1 ?_⟩
  have h2 : 256 ^ (t.take i).length ≤ 256 ^ 7 := Nat.pow_le_pow_right (by decide) (by rw [List.length_take]; omega)
  have h3 : (256 : Int) ^ (t.take i).length ≤ 256 ^ 7 := by
    have := Int.ofNat_le.2 h2
    rwa [Int.natCast_pow, Int.natCast_pow] at this
  exact Int.le_trans h3 (by decide)
theorem reftake_l0 (b : Nat) (t : List Int) (hb : b ≤ 7) (hlen : b ≤ t.length) (ht : Byts t) (hl : t.length ≤ 140737488351232) : ∀ (d k i : Nat), i + d = b → d + 100 < k →
    scriptoriumref01_TakeNum.l0 k ((b : Int) :: t) (b : Int) (qNum (t.take i)) ((i + 1 : Nat) : Int) =
      some (if (t.take b).head? = some 0 ∨ 9007199254740991 < qNum (t.take b) then (0, [], 4) else (qNum (t.take b), t.drop b, 0)) := by
  intro d
  induction d with
  | zero =>
    intro k i h1 hk
    obtain ⟨k, rfl⟩ : ∃ j, k = j + 1 := ⟨k - 1, by omega⟩
    obtain rfl : i = b := by omega
    simp only [scriptoriumref01_TakeNum.l0]
    rw [if_neg (by omega), refnum_f k _ (by omega)]
    obtain ⟨hq0, hq1⟩ := qNum_lt7 t ht i hb
    by_cases hbig : 9007199254740991 < qNum (t.take i)
    · have e : numOf (qNum (t.take i)) = ([], 2) := if_pos (.inr hbig)
      rw [e, if_pos (.inr hbig)]
      rfl
    · have e : numOf (qNum (t.take i)) = (encN (qNum (t.take i)).toNat, 0) := if_neg (by omega)
      have hn : (qNum (t.take i)).toNat ≤ 9007199254740991 := by omega
      have hle := encN_len _ hn
      have hw : wrap64 (1 + (i : Int)) = ((i + 1 : Nat) : Int) := by unfold wrap64; omega
      have htk : ((i : Int) :: t).take ((i + 1 : Nat) : Int).toNat = (i : Int) :: t.take i := by rw [Int.toNat_natCast, List.take_succ_cons]
      have hdr : ((i : Int) :: t).drop ((i + 1 : Nat) : Int).toNat = t.drop i := by rw [Int.toNat_natCast, List.drop_succ_cons]
      have hol : (t.take i).length = i := by rw [List.length_take]; omega
      rw [e, hw]
      simp only [Option.bind_some, if_true]
      rw [if_pos (by omega), if_pos (by rw [List.length_cons]; omega), htk, hdr, eqB k _ _ (by omega) (by omega)]
      simp only [Option.bind_some]
      by_cases hh : (t.take i).head? = some 0
      · have hne : ¬ encN (qNum (t.take i)).toNat = (i : Int) :: t.take i := by
          intro e
          unfold encN at e
          have := (List.cons.inj e).2
          exact enc_head _ hn (by rw [this]; exact hh)
        have hR : (if (t.take i).head? = some 0 ∨ 9007199254740991 < qNum (t.take i) then ((0, [], 4) : Int × List Int × Int) else (qNum (t.take i), t.drop i, 0)) = (0, [], 4) := if_pos (.inl hh)
        rw [decide_eq_false hne, hR]
        rfl
      · have heq : encN (qNum (t.take i)).toNat = (i : Int) :: t.take i := by
          unfold encN
          rw [enc_of _ (ht.take i) (by omega) hh, hol]
        have hc := copyB (t.drop i) (by rw [List.length_drop]; omega)
        have hR : (if (t.take i).head? = some 0 ∨ 9007199254740991 < qNum (t.take i) then ((0, [], 4) : Int × List Int × Int) else (qNum (t.take i), t.drop i, 0)) = (qNum (t.take i), t.drop i, 0) := if_neg (by rintro (h | h); exact hh h; exact hbig h)
        rw [decide_eq_true heq, if_pos rfl, hc, hR]
        rfl
  | succ d ih =>
    intro k i h1 hk
    obtain ⟨k, rfl⟩ : ∃ j, k = j + 1 := ⟨k - 1, by omega⟩
    have hi : i < t.length := by omega
    obtain ⟨hq0, hq1⟩ := qNum_lt7 t ht i (by omega)
    obtain ⟨hp0, hp1⟩ := qNum_lt7 t ht (i + 1) (by omega)
    have hs : t.take (i + 1) = t.take i ++ [t[i]] := by rw [List.take_succ_eq_append_getElem hi]
    have hx := ht t[i] (List.getElem_mem hi)
    have hr : rd ((b : Int) :: t) ((i + 1 : Nat) : Int) = t[i] := by
      rw [rd_get _ (i + 1) (by rw [List.length_cons]; omega)]
      rfl
    have hv : wrap64 (wrap64 (qNum (t.take i) * 256) + wrap64 t[i]) = qNum (t.take (i + 1)) := by
      rw [hs, qNum_snoc] at hp0 hp1 ⊢
      unfold wrap64
      omega
    simp only [scriptoriumref01_TakeNum.l0]
    rw [if_pos (by omega), if_pos (by omega), if_pos (by rw [List.length_cons]; omega), hr, hv]
    have hw : wrap64 (((i + 1 : Nat) : Int) + 1) = ((i + 1 + 1 : Nat) : Int) := by unfold wrap64; omega
    rw [hw]
    exact ih k (i + 1) (by omega) (by omega)
theorem reftake_f (k : Nat) (l : List Int) (hb : Byts l) (hl : l.length ≤ 140737488351232) (hk : 120 < k) : scriptoriumref01_TakeNum.f k l = some (qTake l) := by
  unfold scriptoriumref01_TakeNum.f
  cases l with
  | nil => rfl
  | cons b t =>
    have hx := hb b (by simp)
    have hr : rd (b :: t) 0 = b := rfl
    have hw : wrap64 b = b := by unfold wrap64; omega
    have hw2 : wrap64 (1 + b) = 1 + b := by unfold wrap64; omega
    rw [List.length_cons] at hl
    rw [if_neg (by rw [List.length_cons]; omega), if_pos (by rw [List.length_cons]; omega), hr, hw, hw2, qTake_cons]
    by_cases h1 : b > 7
    · rw [if_pos h1, if_pos h1]
    · rw [if_neg h1, if_neg h1]
      by_cases h2 : (t.length : Int) < b
      · rw [if_pos (by rw [List.length_cons]; omega), if_pos h2]
      · rw [if_neg (by rw [List.length_cons]; omega), if_neg h2]
        obtain ⟨m, rfl⟩ := Int.eq_ofNat_of_zero_le hx.1
        have := reftake_l0 m t (by omega) (by omega) hb.tail (by omega) m k 0 (by omega) (by omega)
        rw [Int.toNat_natCast]
        exact this

theorem ref_step (v : BitVec 32) : (if n32 v / 2147483648 = 1 then Go.bits .xor .u32 ((n32 v * 2) % 4294967296) 79764919 else (n32 v * 2) % 4294967296) = n32 (bstep v) := by
  have hs := crcStep_n32 v
  unfold crcStep at hs
  rw [← hs]
  have hm : (n32 v / 2147483648 = 1) ↔ v.msb = true := by
    have := n32_bd v
    rw [BitVec.msb_eq_true_iff_two_mul_ge]
    unfold n32 at *
    omega
  by_cases h : v.msb = true
  · rw [if_pos (hm.2 h), if_neg (by rw [top_zero]; simp [h])]
  · rw [if_neg (fun e => h (hm.1 e)), if_pos (by rw [top_zero]; simpa using h)]
theorem ref_take_l0 : ∀ (d k i : Nat) (v : BitVec 32), i + d = 8 → d < k → scriptoriumref03_take.l0 k (n32 v) (i : Int) = some (n32 (bsteps d v)) := by
  intro d
  induction d with
  | zero =>
    intro k i v h1 hk
    obtain ⟨k, rfl⟩ : ∃ j, k = j + 1 := ⟨k - 1, by omega⟩
    simp only [scriptoriumref03_take.l0]
    rw [if_neg (by omega)]
    rfl
  | succ d ih =>
    intro k i v h1 hk
    obtain ⟨k, rfl⟩ : ∃ j, k = j + 1 := ⟨k - 1, by omega⟩
    have hs := ref_step v
    simp only [scriptoriumref03_take.l0]
    have e : wrap64 ((i : Int) + 1) = ((i + 1 : Nat) : Int) := by unfold wrap64; omega
    rw [if_pos (by omega), e]
    by_cases h : n32 v / 2147483648 = 1
    · rw [if_pos h] at hs ⊢
      rw [hs, ih k (i + 1) _ (by omega) (by omega)]; rfl
    · rw [if_neg h] at hs ⊢
      rw [hs, ih k (i + 1) _ (by omega) (by omega)]; rfl
theorem ref_take (k : Nat) (v : BitVec 32) (c : Int) (h0 : 0 ≤ c) (h1 : c < 256) (hk : 8 < k) : scriptoriumref03_take.f k (n32 v) c = some (n32 (btake v (w8 c))) := by
  unfold scriptoriumref03_take.f
  have e : (c % 4294967296 * 16777216) % 4294967296 = n32 (up (w8 c)) := by
    have := n32_up (w8 c)
    rwa [n8_w8 c h0 h1] at this
  rw [e, xor32, w32_n32, w32_n32]
  exact ref_take_l0 8 k 0 _ rfl hk
theorem ref_Add_l0 (l : List Int) (hb : Bytes l) (hm : l.length ≤ 9223372036854775807) : ∀ (d k i : Nat) (v : BitVec 32), i + d = l.length → d + 9 < k →
    scriptoriumref03_Add.l0 k (n32 v) l (i : Int) = some (n32 (~~~ (bfold v (ws (l.drop i))))) := by
  intro d
  induction d with
  | zero =>
    intro k i v h1 hk
    obtain ⟨k, rfl⟩ : ∃ j, k = j + 1 := ⟨k - 1, by omega⟩
    simp only [scriptoriumref03_Add.l0]
    rw [if_neg (by omega), compl32, List.drop_of_length_le (by omega)]
    rfl
  | succ d ih =>
    intro k i v h1 hk
    obtain ⟨k, rfl⟩ : ∃ j, k = j + 1 := ⟨k - 1, by omega⟩
    have hil : i < l.length := by omega
    have hbi := hb l[i] (List.getElem_mem hil)
    simp only [scriptoriumref03_Add.l0]
    have e : wrap64 ((i : Int) + 1) = ((i + 1 : Nat) : Int) := by unfold wrap64; omega
    rw [if_pos (by omega), if_pos (by omega), rd_get l i hil, ref_take k v _ hbi.1 hbi.2 (by omega), e]
    simp only [Option.bind_some]
    rw [ih k (i + 1) _ (by omega) (by omega), List.drop_eq_getElem_cons hil]
    rfl
theorem ref_Add (k : Nat) (s : Int) (l : List Int) (h0 : 0 ≤ s) (h1 : s < 4294967296) (hb : Bytes l) (hm : l.length ≤ 9223372036854775807) (hk : l.length + 9 < k) :
    scriptoriumref03_Add.f k s l = some (crcAdd s l) := by
  unfold scriptoriumref03_Add.f
  rw [crcAdd_eq s l h0 h1 hb]
  have hs := n32_w32 s h0 h1
  rw [← hs, compl32, hs]
  have := ref_Add_l0 l hb hm l.length k 0 (~~~ (w32 s)) (by omega) hk
  simpa using this

/-- A sum's bytes, the highest one first. -/
def sumB (s : Int) : List Int := [shr .u32 s 24 % 256, shr .u32 s 16 % 256, shr .u32 s 8 % 256, shr .u32 s 0 % 256]
theorem w64_lit (x : Int) (h0 : -9223372036854775808 ≤ x) (h1 : x < 9223372036854775808) : wrap64 x = x := by unfold wrap64; omega
theorem sum_f (k : Nat) (l : List Int) (hk : 10 < k) : frame_sum.f k l = some (sumB (crcAdd 0 l)) := by
  obtain ⟨k, rfl⟩ : ∃ j, k = j + 5 := ⟨k - 5, by omega⟩
  have ec : crc_Of.f l = some (crcAdd 0 l) := rfl
  unfold frame_sum.f
  rw [ec]
  simp only [Option.bind_some]
  rw [if_pos (by decide)]
  generalize crcAdd 0 l = s
  have l4 : ((List.replicate 4 (0 : Int)).length : Int) = 4 := rfl
  rw [l4]
  have e : List.replicate 4 (0 : Int) = [0, 0, 0, 0] := rfl
  rw [e]
  have a0 : wrap64 (0 + 1) = 1 := w64_lit _ (by omega) (by omega)
  have a1 : wrap64 (1 + 1) = 2 := w64_lit _ (by omega) (by omega)
  have a2 : wrap64 (2 + 1) = 3 := w64_lit _ (by omega) (by omega)
  have a3 : wrap64 (3 + 1) = 4 := w64_lit _ (by omega) (by omega)
  have b0 : wrap64 (8 * wrap64 (3 - 0)) = 24 := by rw [w64_lit (3 - 0) (by omega) (by omega), w64_lit _ (by omega) (by omega)]; rfl
  have b1 : wrap64 (8 * wrap64 (3 - 1)) = 16 := by rw [w64_lit (3 - 1) (by omega) (by omega), w64_lit _ (by omega) (by omega)]; rfl
  have b2 : wrap64 (8 * wrap64 (3 - 2)) = 8 := by rw [w64_lit (3 - 2) (by omega) (by omega), w64_lit _ (by omega) (by omega)]; rfl
  have b3 : wrap64 (8 * wrap64 (3 - 3)) = 0 := by rw [w64_lit (3 - 3) (by omega) (by omega), w64_lit _ (by omega) (by omega)]; rfl
  simp only [frame_sum.l0, a0, a1, a2, a3, b0, b1, b2, b3]
  rfl
theorem sumB_len (s : Int) : (sumB s).length = 4 := rfl
theorem sumB_byts (s : Int) : Byts (sumB s) := by
  unfold sumB
  refine Byts.cons ⟨by omega, by omega⟩ (Byts.cons ⟨by omega, by omega⟩ (Byts.cons ⟨by omega, by omega⟩ (Byts.cons ⟨by omega, by omega⟩ Byts.nil)))
theorem sumB_inj (s t : Int) (hs : 0 ≤ s ∧ s < 4294967296) (ht : 0 ≤ t ∧ t < 4294967296) (h : sumB s = sumB t) : s = t := by
  unfold sumB shr at h
  injection h with h0 h
  injection h with h1 h
  injection h with h2 h
  injection h with h3 _
  have e0 : (2 : Int) ^ min (24 : Int).toNat IntKind.u32.bits = 16777216 := by decide
  have e1 : (2 : Int) ^ min (16 : Int).toNat IntKind.u32.bits = 65536 := by decide
  have e2 : (2 : Int) ^ min (8 : Int).toNat IntKind.u32.bits = 256 := by decide
  have e3 : (2 : Int) ^ min (0 : Int).toNat IntKind.u32.bits = 1 := by decide
  rw [e0] at h0
  rw [e1] at h1
  rw [e2] at h2
  rw [e3] at h3
  omega

/-- What stands ahead of the sum; a record. -/
def frB (p : List Int) : List Int := encN p.length ++ p
def frE (p : List Int) : List Int := frB p ++ sumB (crcAdd 0 (frB p))
theorem numOf_nat' (n : Nat) (h : n ≤ 9007199254740991) : numOf (n : Int) = (encN n, 0) := by
  unfold numOf
  rw [if_neg (by omega), Int.toNat_natCast]
theorem frame_f (k : Nat) (p : List Int) (hk : 100 < k) (hl : p.length ≤ 65536) : frame_Frame.f k p = some (frE p, 0) := by
  have he := encN_len p.length (by omega)
  unfold frame_Frame.f
  rw [if_neg (by omega), num_f k _ (by omega), numOf_nat' p.length (by omega), Option.bind_some]
  dsimp only
  rw [if_pos rfl]
  have hc : slices_Concat_byte_byte.f [encN p.length, p] = some (frB p) := by
    unfold slices_Concat_byte_byte.f
    have h1 : sumLen [encN p.length, p] = (encN p.length).length + (p.length + 0) := rfl
    rw [if_pos (by rw [h1]; omega)]
    have h2 : [encN p.length, p].flatten = encN p.length ++ (p ++ []) := rfl
    rw [h2, List.append_nil]
    rfl
  rw [hc, Option.bind_some, sum_f k _ (by omega), Option.bind_some, if_pos (by rw [sumB_len]; unfold frB; rw [List.length_append]; omega)]
  rfl
theorem frame_long (k : Nat) (p : List Int) (hl : 65536 < p.length) : frame_Frame.f k p = some ([], 5) := by
  unfold frame_Frame.f
  rw [if_pos (by omega)]
theorem eqS_l0 (l m : List Int) (hl : l.length = m.length) (hm : l.length ≤ 9223372036854775807) : ∀ (d k i : Nat), i + d = l.length → d < k →
    slices_Equal_byte_byte.l0 k l m (l.length : Int) (i : Int) = some (decide (l.drop i = m.drop i)) := by
  intro d
  induction d with
  | zero =>
    intro k i h1 hk
    obtain ⟨k, rfl⟩ : ∃ j, k = j + 1 := ⟨k - 1, by omega⟩
    simp only [slices_Equal_byte_byte.l0]
    rw [if_neg (by omega), List.drop_of_length_le (by omega), List.drop_of_length_le (by omega)]
    simp
  | succ d ih =>
    intro k i h1 hk
    obtain ⟨k, rfl⟩ : ∃ j, k = j + 1 := ⟨k - 1, by omega⟩
    have hil : i < l.length := by omega
    have him : i < m.length := by omega
    simp only [slices_Equal_byte_byte.l0]
    rw [if_pos (by omega), if_pos (by omega), if_pos (by omega), if_pos (by omega), rd_get l i hil, rd_get m i him, wrap64_id _ (by omega) (by omega)]
    have e : ((i : Int) + 1) = ((i + 1 : Nat) : Int) := by omega
    rw [e, ih k (i + 1) (by omega) (by omega)]
    have e1 := List.drop_eq_getElem_cons hil
    have e2 := List.drop_eq_getElem_cons him
    rw [e1, e2]
    by_cases hx : l[i] = m[i]
    · rw [if_pos hx, hx]
      congr 1
      apply decide_eq_decide.2
      constructor
      · intro h; rw [h]
      · intro h; exact (List.cons.inj h).2
    · rw [if_neg hx]
      have : ¬ (l[i] :: l.drop (i + 1) = m[i] :: m.drop (i + 1)) := fun h => hx (List.cons.inj h).1
      rw [decide_eq_false this]
theorem eqS (k : Nat) (l m : List Int) (hm : l.length ≤ 9223372036854775807) (hk : l.length < k) : slices_Equal_byte_byte.f k l m = some (decide (l = m)) := by
  unfold slices_Equal_byte_byte.f
  by_cases hl : l.length = m.length
  · rw [if_pos (by omega)]
    have := eqS_l0 l m hl hm l.length k 0 (by omega) hk
    simpa using this
  · rw [if_neg (by omega)]
    have : ¬ l = m := fun e => hl (by rw [e])
    simp [this]
theorem takeNum_f' (l : List Int) (h : Byts l) (hl : l.length < 140737488355328) : quill_TakeNum.f l = some (qTake l) := if_pos ⟨(isByts_iff l).2 h, hl⟩
/-- What next tells of bytes that begin with a number. -/
def nextOf (n : Nat) (rest : List Int) : Int × Int × Int :=
  if 65536 < n then (0, 0, 5) else if rest.length < n + 4 then (0, 0, 3)
  else if (rest.drop n).take 4 = sumB (crcAdd 0 (encN n ++ rest.take n)) then (((encN n).length : Int), (((encN n).length + n : Nat) : Int), 0) else (0, 0, 40)
theorem next_f (k : Nat) (n : Nat) (rest : List Int) (hk : 100 < k) (hn : n ≤ 9007199254740991) (hb : Byts (encN n ++ rest)) (hl : (encN n ++ rest).length < 140737488355328) :
    frame_next.f k (encN n ++ rest) = some (nextOf n rest) := by
  have he := encN_len n hn
  rw [List.length_append] at hl
  unfold frame_next.f nextOf
  rw [takeNum_f' _ hb (by rw [List.length_append]; exact hl), qTake_encN n hn rest, Option.bind_some]
  dsimp only
  rw [if_pos rfl]
  by_cases c1 : 65536 < n
  · rw [if_pos (by omega), if_pos c1]
  rw [if_neg (by omega), if_neg c1, wrap64_id _ (by omega) (by omega)]
  by_cases c2 : rest.length < n + 4
  · rw [if_pos (by omega), if_pos c2]
  rw [if_neg (by omega), if_neg c2]
  have w1 : wrap64 (((encN n ++ rest).length : Int) - (rest.length : Int)) = ((encN n).length : Int) := by
    rw [List.length_append, wrap64_id _ (by omega) (by omega)]
    omega
  have w2 : wrap64 (((encN n).length : Int) + (n : Int)) = (((encN n).length + n : Nat) : Int) := by rw [wrap64_id _ (by omega) (by omega)]; omega
  have w3 : wrap64 ((((encN n).length + n : Nat) : Int) + 4) = (((encN n).length + n + 4 : Nat) : Int) := by rw [wrap64_id _ (by omega) (by omega)]; omega
  rw [w1, w2, w3, if_pos (by omega), if_pos (by omega), if_pos (by rw [List.length_append]; omega), if_pos (by rw [List.length_append]; omega), sum_f k _ (by omega), Option.bind_some, Int.toNat_natCast, Int.toNat_natCast]
  have t1 : (encN n ++ rest).take ((encN n).length + n) = encN n ++ rest.take n := by rw [List.take_append, List.take_of_length_le (by omega), Nat.add_sub_cancel_left]
  have t2 : ((encN n ++ rest).take ((encN n).length + n + 4)).drop ((encN n).length + n) = (rest.drop n).take 4 := by
    rw [Nat.add_assoc, List.take_append, List.take_of_length_le (by omega), Nat.add_sub_cancel_left, ← List.drop_drop, List.drop_left, List.drop_take, Nat.add_sub_cancel_left]
  rw [t1, t2, eqS k _ _ (by rw [List.length_take, List.length_drop]; omega) (by rw [List.length_take, List.length_drop]; omega), Option.bind_some]
  by_cases c3 : (rest.drop n).take 4 = sumB (crcAdd 0 (encN n ++ rest.take n))
  · rw [if_pos (decide_eq_true c3), if_pos c3]
  · rw [decide_eq_false c3, if_neg (by simp), if_neg c3]
theorem next_err (k : Nat) (l : List Int) (hb : Byts l) (hl : l.length < 140737488355328) (h : (qTake l).2.2 ≠ 0) : frame_next.f k l = some (0, 0, (qTake l).2.2) := by
  unfold frame_next.f
  rw [takeNum_f' _ hb hl, Option.bind_some, if_neg h]
/-- What Next tells. -/
theorem Next_no (k : Nat) (l : List Int) (e : Int) (h : frame_next.f k l = some (0, 0, e)) (he : e ≠ 0) : frame_Next.f k l = some ([], 0, e) := by
  unfold frame_Next.f
  rw [h, Option.bind_some]
  dsimp only
  rw [if_neg he]
/-- Next tells just of what is a record, and what comes behind it. -/
theorem Next_cases (k : Nat) (l : List Int) (hk : 100 < k) (hb : Byts l) (hl : l.length < 140737488355328) :
    (∃ e, (e = 3 ∨ e = 4 ∨ e = 5 ∨ e = 40) ∧ frame_Next.f k l = some ([], 0, e)) ∨
    (∃ p r, p.length ≤ 65536 ∧ l = frE p ++ r ∧ frame_Next.f k l = some (p, ((frE p).length : Int), 0)) := by
  by_cases h0 : (qTake l).2.2 = 0
  · obtain ⟨n, hn, _, h2⟩ := qTake_ok l hb h0
    generalize (qTake l).2.1 = rest at h2
    subst h2
    have he := encN_len n hn
    have hf := next_f k n rest hk hn hb hl
    unfold nextOf at hf
    rw [List.length_append] at hl
    by_cases c1 : 65536 < n
    · rw [if_pos c1] at hf
      exact .inl ⟨5, by omega, Next_no k _ 5 hf (by decide)⟩
    rw [if_neg c1] at hf
    by_cases c2 : rest.length < n + 4
    · rw [if_pos c2] at hf
      exact .inl ⟨3, by omega, Next_no k _ 3 hf (by decide)⟩
    rw [if_neg c2] at hf
    by_cases c3 : (rest.drop n).take 4 = sumB (crcAdd 0 (encN n ++ rest.take n))
    · rw [if_pos c3] at hf
      have hpl : (rest.take n).length = n := by rw [List.length_take]; omega
      have e1 : frE (rest.take n) = encN n ++ rest.take n ++ (rest.drop n).take 4 := by
        unfold frE frB
        rw [hpl, c3]
      refine .inr ⟨rest.take n, rest.drop (n + 4), by omega, ?_, ?_⟩
      · rw [e1, List.append_assoc, List.append_assoc, ← List.drop_drop, List.take_append_drop, List.take_append_drop]
      · unfold frame_Next.f
        rw [hf, Option.bind_some]
        dsimp only
        rw [if_pos rfl, if_pos (by omega), if_pos (by omega), if_pos (by rw [List.length_append]; omega), Int.toNat_natCast, Int.toNat_natCast]
        have t1 : ((encN n ++ rest).take ((encN n).length + n)).drop (encN n).length = rest.take n := by
          rw [List.take_append, List.take_of_length_le (by omega), Nat.add_sub_cancel_left, List.drop_left]
        have hc : slices_Clone_byte_byte.f (rest.take n) = some (rest.take n) := if_pos (by omega)
        rw [t1, hc, Option.bind_some, wrap64_id _ (by omega) (by omega)]
        have e2 : (frE (rest.take n)).length = (encN n).length + n + 4 := by
          rw [e1, List.length_append, List.length_append, hpl, List.length_take, List.length_drop]
          omega
        rw [e2]
        rfl
    · rw [if_neg c3] at hf
      exact .inl ⟨40, by omega, Next_no k _ 40 hf (by decide)⟩
  · have h1 := next_err k l hb hl h0
    obtain ⟨_, _, h3⟩ := qTake_err l h0
    exact .inl ⟨(qTake l).2.2, by omega, Next_no k _ _ h1 h0⟩
theorem crc_bd (l : List Int) : 0 ≤ crcAdd 0 l ∧ crcAdd 0 l < 4294967296 := crcAdd_bd 0 l
theorem frB_byts (p : List Int) (h : Byts p) (hl : p.length ≤ 65536) : Byts (frB p) := (encN_byts _ (by omega)).append h
theorem frE_byts (p : List Int) (h : Byts p) (hl : p.length ≤ 65536) : Byts (frE p) := (frB_byts p h hl).append (sumB_byts _)
theorem frE_len (p : List Int) : (frE p).length = (encN p.length).length + p.length + 4 := by
  unfold frE frB
  rw [List.length_append, List.length_append, sumB_len]
/-- A record, and what comes behind it: Next tells it. -/
theorem Next_yes (k : Nat) (p r : List Int) (hk : 100 < k) (hp : p.length ≤ 65536) (hb : Byts (frE p ++ r)) (hl : (frE p ++ r).length < 140737488355328) : frame_Next.f k (frE p ++ r) = some (p, ((frE p).length : Int), 0) := by
  have he := encN_len p.length (by omega)
  have hL := frE_len p
  have e1 : frE p ++ r = encN p.length ++ (p ++ (sumB (crcAdd 0 (frB p)) ++ r)) := by unfold frE frB; simp only [List.append_assoc]
  rw [List.length_append] at hl
  have hf := next_f k p.length (p ++ (sumB (crcAdd 0 (frB p)) ++ r)) hk (by omega) (by rw [← e1]; exact hb) (by rw [← e1, List.length_append]; exact hl)
  unfold nextOf at hf
  rw [if_neg (by omega), if_neg (by rw [List.length_append, List.length_append, sumB_len]; omega), List.drop_left, List.take_left] at hf
  have t4 : (sumB (crcAdd 0 (frB p)) ++ r).take 4 = sumB (crcAdd 0 (frB p)) := List.take_left' (sumB_len _)
  rw [t4, if_pos (show sumB (crcAdd 0 (frB p)) = sumB (crcAdd 0 (encN p.length ++ p)) from rfl), ← e1] at hf
  unfold frame_Next.f
  rw [hf, Option.bind_some]
  dsimp only
  rw [if_pos rfl, if_pos (by omega), if_pos (by omega), if_pos (by rw [List.length_append]; omega), Int.toNat_natCast, Int.toNat_natCast]
  have t1 : ((frE p ++ r).take ((encN p.length).length + p.length)).drop (encN p.length).length = p := by
    rw [e1, List.take_append, List.take_of_length_le (by omega), Nat.add_sub_cancel_left, List.drop_left, List.take_left]
  have hc : slices_Clone_byte_byte.f p = some p := if_pos (by omega)
  rw [t1, hc, Option.bind_some, wrap64_id _ (by omega) (by omega), hL]
  rfl

/-- Records, one behind the other. -/
def frs (ps : List (List Int)) : List Int := (ps.map frE).flatten
theorem frs_nil : frs [] = [] := rfl
theorem frs_cons (p : List Int) (ps : List (List Int)) : frs (p :: ps) = frE p ++ frs ps := rfl
theorem frs_append (ps qs : List (List Int)) : frs (ps ++ qs) = frs ps ++ frs qs := by unfold frs; rw [List.map_append, List.flatten_append]
theorem frs_byts : ∀ (ps : List (List Int)), (∀ p ∈ ps, Byts p ∧ p.length ≤ 65536) → Byts (frs ps)
  | [], _ => Byts.nil
  | p :: ps, h => by
    rw [frs_cons]
    exact (frE_byts p (h p (List.mem_cons_self ..)).1 (h p (List.mem_cons_self ..)).2).append (frs_byts ps (fun q hq => h q (List.mem_cons_of_mem _ hq)))
theorem Next_nil (k : Nat) : frame_Next.f k [] = some ([], 0, 3) := Next_no k [] 3 (next_err k [] Byts.nil (by decide) (by decide)) (by decide)
/-- A record that is cut. -/
theorem Next_trunc (k : Nat) (p : List Int) (j : Nat) (hk : 100 < k) (hp : p.length ≤ 65536) (hpb : Byts p) (hj : j < (frE p).length) : frame_Next.f k ((frE p).take j) = some ([], 0, 3) := by
  have he := encN_len p.length (by omega)
  have hL := frE_len p
  by_cases c0 : j = 0
  · subst c0
    exact Next_nil k
  · have hB : Byts ((frE p).take j) := (frE_byts p hpb hp).take j
    by_cases c1 : j < (encN p.length).length
    · have e1 : (frE p).take j = (encN p.length).take j := by
        unfold frE frB
        rw [List.append_assoc, List.take_append_of_le_length (by omega)]
      rw [e1] at hB ⊢
      refine Next_no k _ 3 ?_ (by decide)
      have hq : qTake ((encN p.length).take j) = (0, [], 3) := by
        obtain ⟨j, rfl⟩ : ∃ i, j = i + 1 := ⟨j - 1, by omega⟩
        have hl7 := enc_len p.length (by omega)
        have hle : (encN p.length).length = (enc p.length).length + 1 := by unfold encN; rw [List.length_cons]
        unfold encN
        rw [List.take_succ_cons, qTake_cons, if_neg (by omega), if_pos (by rw [List.length_take]; omega)]
      have hn := next_err k _ hB (by rw [List.length_take]; omega) (by rw [hq]; decide)
      rw [hq] at hn
      exact hn
    · have e1 : (frE p).take j = encN p.length ++ ((p ++ sumB (crcAdd 0 (frB p))).take (j - (encN p.length).length)) := by
        unfold frE frB
        rw [List.append_assoc, List.take_append, List.take_of_length_le (by omega)]
      rw [e1] at hB ⊢
      have hrl : ((p ++ sumB (crcAdd 0 (frB p))).take (j - (encN p.length).length)).length < p.length + 4 := by
        rw [List.length_take]
        omega
      have hf := next_f k p.length _ hk (by omega) hB (by rw [List.length_append]; omega)
      unfold nextOf at hf
      rw [if_neg (by omega), if_pos hrl] at hf
      exact Next_no k _ 3 hf (by decide)
/-- Records, and something behind them that is none: they are told. -/
theorem recs_frs (k : Nat) (hk : 100 < k) : ∀ (ps : List (List Int)) (tail : List Int) (m : Nat) (e : Int), (∀ p ∈ ps, Byts p ∧ p.length ≤ 65536) → Byts tail → (frs ps ++ tail).length < 140737488355328 → ps.length < m →
    frame_Next.f k tail = some ([], 0, e) → e ≠ 0 → recs k m (frs ps ++ tail) = some ps
  | [], tail, m, e, _, _, _, hm, hn, he => by
    obtain ⟨m, rfl⟩ : ∃ i, m = i + 1 := ⟨m - 1, by omega⟩
    unfold recs
    rw [frs_nil, List.nil_append, hn, Option.bind_some]
    dsimp only
    rw [if_neg he]
  | p :: ps, tail, m, e, hps, htb, hlen, hm, hn, he => by
    obtain ⟨m, rfl⟩ : ∃ i, m = i + 1 := ⟨m - 1, by omega⟩
    have hp := hps p (List.mem_cons_self ..)
    have hps' : ∀ q ∈ ps, Byts q ∧ q.length ≤ 65536 := fun q hq => hps q (List.mem_cons_of_mem _ hq)
    have hL := frE_len p
    have he1 := encN_len p.length (by omega)
    rw [frs_cons, List.append_assoc] at hlen ⊢
    have hB : Byts (frE p ++ (frs ps ++ tail)) := (frE_byts p hp.1 hp.2).append ((frs_byts ps hps').append htb)
    unfold recs
    rw [Next_yes k p (frs ps ++ tail) hk hp.2 hB hlen, Option.bind_some]
    dsimp only
    rw [List.length_append] at hlen
    rw [if_pos rfl, if_pos (by rw [List.length_append]; omega), Int.toNat_natCast, List.drop_left, recs_frs k hk ps tail m e hps' htb (by omega) (by simpa using hm) hn he, Option.bind_some]

theorem refOf_f (k : Nat) (l : List Int) (hb : Bytes l) (hm : l.length ≤ 140737488355328) (hk : l.length + 9 < k) : scriptoriumref03_Of.f k l = some (crcAdd 0 l) := by
  unfold scriptoriumref03_Of.f
  rw [ref_Add k 0 l (by omega) (by omega) hb (by omega) hk]
  rfl
theorem refsum_f (k : Nat) (l : List Int) (hb : Bytes l) (hm : l.length ≤ 140737488355328) (hk : l.length + 9 < k) : scriptoriumref04_sum.f k l = some (sumB (crcAdd 0 l)) := by
  unfold scriptoriumref04_sum.f
  rw [refOf_f k l hb hm hk, Option.bind_some]
  have hs := crcAdd_bd 0 l
  generalize crcAdd 0 l = s at hs ⊢
  have e0 : shr .u32 s 24 = s / 16777216 := rfl
  have e1 : shr .u32 s 16 = s / 65536 := rfl
  have e2 : shr .u32 s 8 = s / 256 := rfl
  have e3 : shr .u32 s 0 = s := by show s / 1 = s; omega
  unfold sumB
  rw [e0, e1, e2, e3]

theorem sum_ones {α : Type} (l : List α) : (l.map fun _ => 1).sum = l.length := by
  induction l with
  | nil => rfl
  | cons x l ih => rw [List.map_cons, List.sum_cons, ih, List.length_cons]; omega

theorem wf_byts {l : List Int} (h : ∀ x ∈ l, (Lit.int .u8 x).wf = true) : Byts l := by
  intro x hx
  have := h x hx
  simp only [Lit.wf, Bool.and_eq_true, decide_eq_true_eq] at this
  have hmin : IntKind.u8.min = 0 := rfl
  have hmax : IntKind.u8.max = 255 := rfl
  omega

theorem works_f (k : Nat) (hk : 120 ≤ k) : scriptoriumlaw04_works.f k = some true := more_rounds scriptoriumlaw04_works.mono hk (by kernel_rfl)

/-- What the document tells of bytes that begin with a number. -/
def nextR (n : Nat) (rest : List Int) : List Int × Int × Int :=
  if 65536 < n then ([], 0, 5) else if rest.length < n + 4 then ([], 0, 3)
  else if (rest.drop n).take 4 = sumB (crcAdd 0 (encN n ++ rest.take n)) then (rest.take n, (((encN n).length + n + 4 : Nat) : Int), 0) else ([], 0, 40)
theorem refnext_enc (k : Nat) (n : Nat) (rest : List Int) (hk : 2000000 < k) (hn : n ≤ 9007199254740991) (hb : Byts (encN n ++ rest)) (hl : (encN n ++ rest).length ≤ 1048576) :
    scriptoriumref04_Next.f k (encN n ++ rest) = some (nextR n rest) := by
  have he := encN_len n hn
  have hl' := hl
  rw [List.length_append] at hl'
  unfold scriptoriumref04_Next.f nextR
  rw [reftake_f k _ hb (by omega) (by omega), qTake_encN n hn rest, Option.bind_some]
  dsimp only
  rw [if_pos rfl]
  by_cases c1 : 65536 < n
  · rw [if_pos (by omega), if_pos c1]
  rw [if_neg (by omega), if_neg c1, wrap64_id _ (by omega) (by omega)]
  by_cases c2 : rest.length < n + 4
  · rw [if_pos (by omega), if_pos c2]
  rw [if_neg (by omega), if_neg c2]
  have w1 : wrap64 (((encN n ++ rest).length : Int) - (rest.length : Int)) = ((encN n).length : Int) := by
    rw [List.length_append, wrap64_id _ (by omega) (by omega)]
    omega
  have w2 : wrap64 (((encN n).length : Int) + (n : Int)) = (((encN n).length + n : Nat) : Int) := by rw [wrap64_id _ (by omega) (by omega)]; omega
  have w3 : wrap64 ((((encN n).length + n : Nat) : Int) + 4) = (((encN n).length + n + 4 : Nat) : Int) := by rw [wrap64_id _ (by omega) (by omega)]; omega
  have t1 : (encN n ++ rest).take ((encN n).length + n) = encN n ++ rest.take n := by rw [List.take_append, List.take_of_length_le (by omega), Nat.add_sub_cancel_left]
  have t2 : ((encN n ++ rest).take ((encN n).length + n + 4)).drop ((encN n).length + n) = (rest.drop n).take 4 := by
    rw [Nat.add_assoc, List.take_append, List.take_of_length_le (by omega), Nat.add_sub_cancel_left, ← List.drop_drop, List.drop_left, List.drop_take, Nat.add_sub_cancel_left]
  have hB : Byts (encN n ++ rest.take n) := by rw [← t1]; exact hb.take _
  have hBl : (encN n ++ rest.take n).length ≤ 1048576 := by rw [← t1, List.length_take]; omega
  have hk2 : (encN n ++ rest.take n).length + 9 < k := by omega
  rw [w1, w2, w3, if_pos (by omega), if_pos (by omega), if_pos (by rw [List.length_append]; omega), if_pos (by rw [List.length_append]; omega), Int.toNat_natCast, Int.toNat_natCast, t1, t2,
    refsum_f k _ hB (by omega) hk2, Option.bind_some, eqB k _ _ (by rw [List.length_take, List.length_drop]; omega) (by rw [List.length_take, List.length_drop]; omega), Option.bind_some]
  by_cases c3 : (rest.drop n).take 4 = sumB (crcAdd 0 (encN n ++ rest.take n))
  · rw [if_pos (decide_eq_true c3), if_pos c3, if_pos (by omega), if_pos (by omega), Int.toNat_natCast, copyB _ (by rw [List.length_take]; omega), Option.bind_some]
  · rw [decide_eq_false c3, if_neg (by simp), if_neg c3]
theorem refnext_err (k : Nat) (l : List Int) (hb : Byts l) (hl : l.length ≤ 1048576) (hk : 2000000 < k) (h : (qTake l).2.2 ≠ 0) : scriptoriumref04_Next.f k l = some ([], 0, (qTake l).2.2) := by
  unfold scriptoriumref04_Next.f
  rw [reftake_f k _ hb (by omega) (by omega), Option.bind_some, if_neg h]
theorem Next_enc (k : Nat) (n : Nat) (rest : List Int) (hk : 100 < k) (hn : n ≤ 9007199254740991) (hb : Byts (encN n ++ rest)) (hl : (encN n ++ rest).length ≤ 1048576) :
    frame_Next.f k (encN n ++ rest) = some (nextR n rest) := by
  have he := encN_len n hn
  have hf := next_f k n rest hk hn hb (by omega)
  have hl' := hl
  rw [List.length_append] at hl'
  unfold nextOf at hf
  unfold nextR
  by_cases c1 : 65536 < n
  · rw [if_pos c1] at hf ⊢
    exact Next_no k _ 5 hf (by decide)
  rw [if_neg c1] at hf ⊢
  by_cases c2 : rest.length < n + 4
  · rw [if_pos c2] at hf ⊢
    exact Next_no k _ 3 hf (by decide)
  rw [if_neg c2] at hf ⊢
  by_cases c3 : (rest.drop n).take 4 = sumB (crcAdd 0 (encN n ++ rest.take n))
  · rw [if_pos c3] at hf ⊢
    unfold frame_Next.f
    rw [hf, Option.bind_some]
    dsimp only
    rw [if_pos rfl, if_pos (by omega), if_pos (by omega), if_pos (by rw [List.length_append]; omega), Int.toNat_natCast, Int.toNat_natCast]
    have t1 : ((encN n ++ rest).take ((encN n).length + n)).drop (encN n).length = rest.take n := by
      rw [List.take_append, List.take_of_length_le (by omega), Nat.add_sub_cancel_left, List.drop_left]
    have hc : slices_Clone_byte_byte.f (rest.take n) = some (rest.take n) := if_pos (by rw [List.length_take]; omega)
    rw [t1, hc, Option.bind_some, wrap64_id _ (by omega) (by omega)]
    congr 2
  · rw [if_neg c3] at hf ⊢
    exact Next_no k _ 40 hf (by decide)
theorem ref_Next (k : Nat) (l : List Int) (hb : Byts l) (hl : l.length ≤ 1048576) (hk : 2000000 < k) : scriptoriumref04_Next.f k l = frame_Next.f k l := by
  by_cases h0 : (qTake l).2.2 = 0
  · obtain ⟨n, hn, _, h2⟩ := qTake_ok l hb h0
    generalize (qTake l).2.1 = rest at h2
    subst h2
    rw [refnext_enc k n rest hk hn hb hl, Next_enc k n rest (by omega) hn hb hl]
  · rw [refnext_err k l hb hl hk h0, Next_no k l _ (next_err k l hb (by omega) h0) h0]
/-- Bytes begin with records, and behind them is none. -/
theorem split_recs (k : Nat) (hk : 100 < k) : ∀ (n : Nat) (l : List Int), l.length ≤ n → Byts l → l.length ≤ 1048576 → ∃ ps tail e, l = frs ps ++ tail ∧ frame_Next.f k tail = some ([], 0, e) ∧ e ≠ 0 ∧ ∀ p ∈ ps, Byts p ∧ p.length ≤ 65536
  | 0, l, h0, hb, hl => by
    obtain rfl : l = [] := List.length_eq_zero_iff.1 (by omega)
    exact ⟨[], [], 3, rfl, Next_nil k, by decide, fun _ h => by cases h⟩
  | n + 1, l, h0, hb, hl => by
    rcases Next_cases k l hk hb (by omega) with ⟨e, he, hN⟩ | ⟨p, r, hp, hl2, hN⟩
    · exact ⟨[], l, e, rfl, hN, by omega, fun _ h => by cases h⟩
    · have hL := frE_len p
      have e5 : l.length = (frE p).length + r.length := by rw [hl2, List.length_append]
      have hbr : Byts r := fun x hx => hb x (by rw [hl2]; exact List.mem_append_right _ hx)
      have hbp : Byts p := fun x hx => hb x (by rw [hl2]; refine List.mem_append_left _ ?_; unfold frE frB; exact List.mem_append_left _ (List.mem_append_right _ hx))
      obtain ⟨ps, tail, e, h1, h2, h3, h4⟩ := split_recs k hk n r (by omega) hbr (by omega)
      refine ⟨p :: ps, tail, e, by rw [hl2, h1, frs_cons, List.append_assoc], h2, h3, ?_⟩
      intro q hq
      rcases List.mem_cons.1 hq with rfl | hq
      · exact ⟨hbp, hp⟩
      · exact h4 q hq
theorem refAll_l0 (k : Nat) (hk : 2000000 < k) : ∀ (ps : List (List Int)) (tail : List Int) (m : Nat) (e : Int) (acc : List (List Int)), (∀ p ∈ ps, Byts p ∧ p.length ≤ 65536) → Byts tail → (frs ps ++ tail).length ≤ 1048576 → 2000001 + ps.length < m → m ≤ k →
    (∀ k', 100 < k' → frame_Next.f k' tail = some ([], 0, e)) → e ≠ 0 → acc.length + ps.length < 5000000000 → scriptoriumref04_All.l0 m (frs ps ++ tail) acc = some (acc ++ ps)
  | [], tail, m, e, acc, _, htb, hlen, hm, _, hn, he, _ => by
    obtain ⟨m, rfl⟩ : ∃ i, m = i + 1 := ⟨m - 1, by omega⟩
    rw [frs_nil, List.nil_append] at hlen ⊢
    simp only [scriptoriumref04_All.l0]
    rw [ref_Next m tail htb hlen (by simp at hm; omega), hn m (by omega), Option.bind_some]
    dsimp only
    rw [if_neg he, List.append_nil]
  | p :: ps, tail, m, e, acc, hps, htb, hlen, hm, hmk, hn, he, hac => by
    obtain ⟨m, rfl⟩ : ∃ i, m = i + 1 := ⟨m - 1, by omega⟩
    rw [List.length_cons] at hm hac
    have hp := hps p (List.mem_cons_self ..)
    have hps' : ∀ q ∈ ps, Byts q ∧ q.length ≤ 65536 := fun q hq => hps q (List.mem_cons_of_mem _ hq)
    rw [frs_cons, List.append_assoc] at hlen ⊢
    have hB : Byts (frE p ++ (frs ps ++ tail)) := (frE_byts p hp.1 hp.2).append ((frs_byts ps hps').append htb)
    have hN := Next_yes m p (frs ps ++ tail) (by omega) hp.2 hB (by omega)
    simp only [scriptoriumref04_All.l0]
    rw [ref_Next m _ hB hlen (by omega), hN, Option.bind_some]
    dsimp only
    rw [List.length_append] at hlen
    rw [if_pos rfl, if_pos (by omega), if_pos (by omega), if_pos (by rw [List.length_append]; omega), Int.toNat_natCast, List.drop_left,
      refAll_l0 k hk ps tail m e (acc ++ [p]) hps' htb (by omega) (by omega) (by omega) hn he (by rw [List.length_append]; simp; omega), List.append_assoc]
    rfl
theorem rdL (ps : List (List Int)) (i : Nat) (h : i < ps.length) : rd_L1 ps (i : Int) = ps[i] := by
  simp [rd_L1, List.getD_eq_getElem?_getD, List.getElem?_eq_getElem h]
theorem sameB_l0 (ps : List (List Int)) (hl : ∀ p ∈ ps, p.length ≤ 65536) (hn : ps.length ≤ 1048576) : ∀ (d k i : Nat), i + d = ps.length → d + 70000 < k → scriptoriumref04_Same.l0 k ps ps (i : Int) = some true := by
  intro d
  induction d with
  | zero =>
    intro k i h1 hk
    obtain ⟨k, rfl⟩ : ∃ j, k = j + 1 := ⟨k - 1, by omega⟩
    simp only [scriptoriumref04_Same.l0]
    rw [if_neg (by omega)]
  | succ d ih =>
    intro k i h1 hk
    obtain ⟨k, rfl⟩ : ∃ j, k = j + 1 := ⟨k - 1, by omega⟩
    have hi : i < ps.length := by omega
    have hq := hl _ (List.getElem_mem hi)
    have w1 : wrap64 ((i : Int) + 1) = ((i + 1 : Nat) : Int) := by rw [wrap64_id _ (by omega) (by omega)]; omega
    simp only [scriptoriumref04_Same.l0]
    rw [if_pos (by omega), if_pos (by omega), if_pos (by omega), rdL ps i hi, eqB k _ _ (by omega) (by omega), Option.bind_some, if_pos (by simp), w1]
    exact ih k (i + 1) (by omega) (by omega)
theorem sameB_f (k : Nat) (ps : List (List Int)) (hl : ∀ p ∈ ps, p.length ≤ 65536) (hn : ps.length ≤ 1048576) (hk : 1200000 < k) : scriptoriumref04_Same.f k ps ps = some true := by
  unfold scriptoriumref04_Same.f
  rw [if_pos rfl]
  exact sameB_l0 ps hl hn ps.length k 0 (by omega) (by omega)
theorem frs_len_ge : ∀ (ps : List (List Int)), ps.length ≤ (frs ps).length
  | [] => by simp [frs]
  | p :: ps => by
    have h1 := frE_len p
    have h2 := frs_len_ge ps
    rw [frs_cons, List.length_append, List.length_cons]
    omega
theorem FrameReads : scriptoriumlaw04_FrameReads.Pure := by
  rintro l ⟨hm, hl, hw⟩ hbulk
  have hb := wf_byts hw
  rw [sum_ones] at hbulk
  obtain ⟨K, hK⟩ : ∃ K, K = 4000000 := ⟨_, rfl⟩
  obtain ⟨ps, tail, e, h1, h2, h3, h4⟩ := split_recs 101 (by decide) l.length l (Nat.le_refl _) hb (by omega)
  have htb : Byts tail := fun x hx => hb x (by rw [h1]; exact List.mem_append_right _ hx)
  have htl : tail.length ≤ l.length := by rw [h1, List.length_append]; omega
  have hN : ∀ k', 100 < k' → frame_Next.f k' tail = some ([], 0, e) := fun k' hk' => more_rounds (frame_Next.mono tail) (by omega : 101 ≤ k') h2
  have hpl : ps.length ≤ l.length := by have := frs_len_ge ps; rw [h1, List.length_append]; omega
  have hrec : recs K K l = some ps := by rw [h1]; exact recs_frs K (by omega) ps tail K e h4 htb (by rw [← h1]; omega) (by omega) (hN K (by omega)) h3
  have hall : scriptoriumref04_All.f K l = some ps := by
    unfold scriptoriumref04_All.f
    have h9 := refAll_l0 K (by omega) ps tail K e [] h4 htb (by rw [← h1]; omega) (by omega) (Nat.le_refl _) hN h3 (by simp; omega)
    rw [← h1, List.nil_append] at h9
    exact h9
  obtain ⟨x, n, er, hNX, hxl⟩ : ∃ x n er, frame_Next.f K l = some (x, n, er) ∧ x.length ≤ 65536 := by
    rcases Next_cases K l (by omega) hb (by omega) with ⟨e, he, hN⟩ | ⟨p, r, hp, hl2, hN⟩
    · exact ⟨_, _, _, hN, by simp⟩
    · exact ⟨_, _, _, hN, hp⟩
  refine ⟨K, ?_⟩
  unfold scriptoriumlaw04_FrameReads.f
  rw [hNX, Option.bind_some, ref_Next K l hb (by omega) (by omega), hNX, Option.bind_some, hrec, Option.bind_some, hall, Option.bind_some]
  dsimp only
  refine if_pos ⟨copyB l (by omega), ?_, rfl, rfl, ?_, sameB_f K ps (fun p hp => (h4 p hp).2) (by omega) (by omega), ?_, works_f K (by omega), by omega⟩
  · rw [eqB K x x (by omega) (by omega)]; simp
  · intro p hp
    have := (h4 p hp).2
    exact ⟨copyB p (by omega), by omega⟩
  · rw [eqB K l l (by omega) (by omega)]; simp

end Go.Proofs.Ytkboplflbokofaa.Pure
