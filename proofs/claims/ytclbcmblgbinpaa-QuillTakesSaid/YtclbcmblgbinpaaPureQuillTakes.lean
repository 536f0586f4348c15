/- TakeNum and TakeStr answer as the document's way says, of all bytes: the law QuillTakes, its pure statement. -/
import Derived.Test.YtclbcmblgbinpaaPQuillTakesx
import Derived.Test.YtclbcmblgbinpaaQuillEnc
set_option linter.unusedVariables false
set_option linter.unusedSimpArgs false
namespace Go.Proofs.Ytclbcmblgbinpaa.Pure
open Go.RowKit Go.Proofs.Ytclbcmblgbinpaa.PQuillTakes Go.Proofs.YtclbcmblgbinpaaW.PrintWords Go.Proofs.YtclbcmblgbinpaaW.PrintLast Go.Proofs.YtclbcmblgbinpaaW.PrintMore
theorem wrap64_id (x : Int) (h0 : -9223372036854775808 ≤ x) (h1 : x < 9223372036854775808) : wrap64 x = x := by unfold wrap64; omega
theorem rd_get (l : List Int) (i : Nat) (h : i < l.length) : rd l (i : Int) = l[i] := by
  simp [rd, List.getD_eq_getElem?_getD, List.getElem?_eq_getElem h]
theorem eqB_l0 (l m : List Int) (hl : l.length = m.length) (hm : l.length ≤ 9223372036854775807) : ∀ (d k i : Nat), i + d = l.length → d < k →
    scriptoriumref00_EqBytes.l0 k l m (i : Int) = some (decide (l.drop i = m.drop i)) := by
  intro d
  induction d with
  | zero =>
    intro k i h1 hk
    obtain ⟨k, rfl⟩ : ∃ j, k = j + 1 := ⟨k - 1, by omega⟩
    simp only [scriptoriumref00_EqBytes.l0]
    rw [if_neg (by omega), List.drop_of_length_le (by omega), List.drop_of_length_le (by omega)]
    simp
  | succ d ih =>
    intro k i h1 hk
    obtain ⟨k, rfl⟩ : ∃ j, k = j + 1 := ⟨k - 1, by omega⟩
    have hil : i < l.length := by omega
    have him : i < m.length := by omega
    simp only [scriptoriumref00_EqBytes.l0]
    rw [if_pos (by omega), if_pos (by omega), if_pos (by omega), rd_get l i hil, rd_get m i him, wrap64_id _ (by omega) (by omega)]
    have e : ((i : Int) + 1) = ((i + 1 : Nat) : Int) := by omega
    rw [e, ih k (i + 1) (by omega) (by omega)]
    have e1 := List.drop_eq_getElem_cons hil
    have e2 := List.drop_eq_getElem_cons him
    rw [e1, e2]
    by_cases hx : l[i] = m[i]
    · rw [if_pos hx, hx]
      congr 1
      apply decide_eq_decide.2
      constructor
      · intro h; rw [h]
      · intro h; exact (List.cons.inj h).2
    · rw [if_neg hx]
      have : ¬ (l[i] :: l.drop (i + 1) = m[i] :: m.drop (i + 1)) := fun h => hx (List.cons.inj h).1
      rw [decide_eq_false this]
theorem eqB (k : Nat) (l m : List Int) (hm : l.length ≤ 9223372036854775807) (hk : l.length < k) : scriptoriumref00_EqBytes.f k l m = some (decide (l = m)) := by
  unfold scriptoriumref00_EqBytes.f
  by_cases hl : l.length = m.length
  · rw [if_pos (by omega)]
    have := eqB_l0 l m hl hm l.length k 0 (by omega) hk
    simpa using this
  · rw [if_neg (by omega)]
    have : ¬ l = m := fun e => hl (by rw [e])
    simp [this]

theorem copyB (l : List Int) (h : l.length * 1 ≤ 140737488351232) : scriptoriumref00_CopyBytes.f l = some l := by
  unfold scriptoriumref00_CopyBytes.f
  rw [if_pos (by simp; omega)]
  rfl

theorem rev_loop (l : List Int) (hn : l.length ≤ 4611686018427387904) : ∀ (d k i : Nat) (cur : List Int), i + d = l.length / 2 → d < k → cur.length = l.length →
    (∀ p, p < l.length → cur[p]? = if p < i ∨ l.length - 1 - p < i then l[l.length - 1 - p]? else l[p]?) →
    slices_Reverse_byte_byte.l0 k cur (i : Int) ((l.length : Int) - 1 - (i : Int)) = some l.reverse := by
  intro d
  induction d with
  | zero =>
    intro k i cur h1 hk hl hc
    obtain ⟨k, rfl⟩ : ∃ j, k = j + 1 := ⟨k - 1, by omega⟩
    simp only [slices_Reverse_byte_byte.l0]
    rw [if_neg (by omega)]
    congr 1
    apply List.ext_getElem?
    intro p
    by_cases hp : p < l.length
    · rw [hc p hp, List.getElem?_reverse hp]
      by_cases h2 : p < i ∨ l.length - 1 - p < i
      · rw [if_pos h2]
      · rw [if_neg h2]
        congr 1
        omega
    · rw [List.getElem?_eq_none (by omega), List.getElem?_eq_none (by rw [List.length_reverse]; omega)]
  | succ d ih =>
    intro k i cur h1 hk hl hc
    obtain ⟨k, rfl⟩ : ∃ j, k = j + 1 := ⟨k - 1, by omega⟩
    obtain ⟨j, hj⟩ : ∃ j : Nat, (l.length : Int) - 1 - (i : Int) = (j : Int) := ⟨l.length - 1 - i, by omega⟩
    have hij : i < j := by omega
    have hjl : j < l.length := by omega
    have w1 : RowKit.wrap64 ((i : Int) + 1) = ((i + 1 : Nat) : Int) := by unfold RowKit.wrap64; omega
    have w2 : RowKit.wrap64 ((j : Int) - 1) = (l.length : Int) - 1 - ((i + 1 : Nat) : Int) := by unfold RowKit.wrap64; omega
    simp only [slices_Reverse_byte_byte.l0]
    rw [hj, if_pos (by omega), if_pos (by omega), if_pos (by omega), if_pos (by omega), if_pos (by omega), w1, w2, Int.toNat_natCast, Int.toNat_natCast, rd_get cur j (by omega), rd_get cur i (by omega)]
    have hci := hc i (by omega)
    have hcj := hc j hjl
    rw [if_neg (by omega), List.getElem?_eq_getElem (by omega), List.getElem?_eq_getElem (by omega)] at hci hcj
    have hci' := Option.some.inj hci
    have hcj' := Option.some.inj hcj
    refine ih k (i + 1) _ (by omega) (by omega) (by rw [List.length_set, List.length_set]; exact hl) ?_
    intro p hp
    rw [List.getElem?_set, List.getElem?_set, List.length_set]
    by_cases e1 : j = p
    · subst e1
      rw [if_pos rfl, if_pos (by omega), if_pos (by omega), hci', ← List.getElem?_eq_getElem]
      congr 1
      omega
    · rw [if_neg e1]
      by_cases e2 : i = p
      · subst e2
        rw [if_pos rfl, if_pos (by omega), if_pos (by omega), hcj', ← List.getElem?_eq_getElem]
        congr 1
        omega
      · rw [if_neg e2, hc p hp]
        by_cases h2 : p < i ∨ l.length - 1 - p < i
        · rw [if_pos h2, if_pos (by omega)]
        · rw [if_neg h2, if_neg (by omega)]
theorem rev_f (k : Nat) (l : List Int) (hn : l.length ≤ 4611686018427387904) (hk : l.length / 2 < k) : slices_Reverse_byte_byte.f k l = some l.reverse := by
  unfold slices_Reverse_byte_byte.f
  have w : RowKit.wrap64 ((l.length : Int) - 1) = (l.length : Int) - 1 - ((0 : Nat) : Int) := by unfold RowKit.wrap64; omega
  rw [w]
  have h := rev_loop l hn (l.length / 2) k 0 l (by omega) hk rfl (fun p hp => by rw [if_neg (by omega)])
  rw [show ((0 : Nat) : Int) = 0 from rfl] at h ⊢
  exact h

/-- What Num answers. -/
def numOf (n : Int) : List Int × Int := if n < 0 ∨ 9007199254740991 < n then ([], 2) else (encN n.toNat, 0)
theorem leD_stable (f : Nat) : ∀ n j, n < 256 ^ j → j ≤ f → leD f n = leD j n := by
  induction f with
  | zero => intro n j _ h2; obtain rfl : j = 0 := by omega
            rfl
  | succ f ih =>
    intro n j h hj
    cases j with
    | zero => simp at h; subst h; rw [leD_zero, leD_zero]
    | succ j =>
      unfold leD
      by_cases h0 : n = 0
      · rw [if_pos h0, if_pos h0]
      · rw [if_neg h0, if_neg h0, ih (n / 256) j (by rw [Nat.pow_succ] at h; omega) (by omega)]
theorem num_l0 : ∀ (d k n : Nat) (acc : List Int), n < 256 ^ d → acc.length + d ≤ 100 → d + 60 < k →
    quill_Num.l0 k (n : Int) acc = some ((((acc ++ leD d n).length : Int)) % 256 :: (acc ++ leD d n).reverse, 0) := by
  intro d
  induction d with
  | zero =>
    intro k n acc h hl hk
    obtain ⟨k, rfl⟩ : ∃ j, k = j + 1 := ⟨k - 1, by omega⟩
    simp at h
    subst h
    simp only [quill_Num.l0]
    rw [if_neg (by omega), rev_f k acc (by omega) (by omega)]
    simp only [Option.bind_some]
    rw [if_pos (by simp; omega), leD_zero, List.append_nil]
    rfl
  | succ d ih =>
    intro k n acc h hl hk
    obtain ⟨k, rfl⟩ : ∃ j, k = j + 1 := ⟨k - 1, by omega⟩
    simp only [quill_Num.l0]
    by_cases h0 : n = 0
    · subst h0
      rw [if_neg (by omega), rev_f k acc (by omega) (by omega)]
      simp only [Option.bind_some]
      rw [if_pos (by simp; omega), leD_zero, List.append_nil]
      rfl
    · have h2 : n / 256 < 256 ^ d := by rw [Nat.pow_succ] at h; omega
      rw [if_pos (by omega), if_pos (by omega)]
      have e1 : ((n : Int) / 256) = ((n / 256 : Nat) : Int) := by omega
      have e2 : ((n : Int) % 256) = ((n % 256 : Nat) : Int) := by omega
      rw [e1, e2, ih k (n / 256) _ h2 (by rw [List.length_append]; simp; omega) (by omega)]
      have e3 : leD (d + 1) n = ((n % 256 : Nat) : Int) :: leD d (n / 256) := by
        show (if n = 0 then _ else _) = _
        rw [if_neg h0]
      rw [e3, List.append_assoc]
      rfl
theorem num_f (k : Nat) (n : Int) (hk : 80 < k) : quill_Num.f k n = some (numOf n) := by
  obtain ⟨k, rfl⟩ : ∃ j, k = j + 1 := ⟨k - 1, by omega⟩
  unfold quill_Num.f
  simp only [quill_Num.j0]
  by_cases h1 : n < 0
  · have e : numOf n = ([], 2) := if_pos (.inl h1)
    rw [if_pos h1, if_pos trivial, e]
  · rw [if_neg h1]
    by_cases h2 : 9007199254740991 < n
    · have e : numOf n = ([], 2) := if_pos (.inr h2)
      rw [if_pos (decide_eq_true h2), e]
    · have hd : decide (n > 9007199254740991) = false := decide_eq_false h2
      have e : numOf n = (encN n.toNat, 0) := if_neg (by omega)
      rw [hd, if_neg (by simp), e]
      obtain ⟨m, rfl⟩ := Int.eq_ofNat_of_zero_le (show 0 ≤ n by omega)
      rw [num_l0 8 k m [] (lt_pow8 m (by omega)) (by simp) (by omega)]
      have hl := enc_len m (by omega)
      unfold encN enc
      unfold enc at hl
      rw [List.length_reverse] at hl ⊢
      rw [List.nil_append, Int.toNat_natCast]
      congr 3
      omega

theorem refnum_l0 : ∀ (d k n : Nat) (acc : List Int), n < 256 ^ d → n ≤ 9007199254740991 → acc.length + d ≤ 100 → d < k →
    scriptoriumref01_Num.l0 k (n : Int) acc = some ((((leD d n).reverse ++ acc).length : Int) % 256 :: ((leD d n).reverse ++ acc), 0) := by
  intro d
  induction d with
  | zero =>
    intro k n acc h hbig hl hk
    obtain ⟨k, rfl⟩ : ∃ j, k = j + 1 := ⟨k - 1, by omega⟩
    simp at h
    subst h
    simp only [scriptoriumref01_Num.l0]
    rw [if_neg (by omega)]
    simp only [Option.bind_some]
    rw [if_pos (by simp; omega), leD_zero]
    rfl
  | succ d ih =>
    intro k n acc h hbig hl hk
    obtain ⟨k, rfl⟩ : ∃ j, k = j + 1 := ⟨k - 1, by omega⟩
    simp only [scriptoriumref01_Num.l0]
    by_cases h0 : n = 0
    · subst h0
      rw [if_neg (by omega)]
      simp only [Option.bind_some]
      rw [if_pos (by simp; omega), leD_zero]
      rfl
    · have h2 : n / 256 < 256 ^ d := by rw [Nat.pow_succ] at h; omega
      rw [if_pos (by omega)]
      simp only [Option.bind_some]
      · have e1 : RowKit.wrap64 (Int.tdiv (n : Int) 256) = ((n / 256 : Nat) : Int) := by
          rw [Int.tdiv_eq_ediv_of_nonneg (by omega)]; unfold RowKit.wrap64; omega
        have e2 : Int.tmod (n : Int) 256 % 256 = ((n % 256 : Nat) : Int) := by
          rw [Int.tmod_eq_emod_of_nonneg (by omega)]; omega
        rw [if_pos (by simp; omega), e1, e2, ih k (n / 256) _ h2 (by omega) (by rw [List.length_append]; simp; omega) (by omega)]
        have e3 : leD (d + 1) n = ((n % 256 : Nat) : Int) :: leD d (n / 256) := by
          show (if n = 0 then _ else _) = _
          rw [if_neg h0]
        rw [e3, List.reverse_cons, List.append_assoc]
theorem refnum_f (k : Nat) (n : Int) (hk : 80 < k) : scriptoriumref01_Num.f k n = some (numOf n) := by
  obtain ⟨k, rfl⟩ : ∃ j, k = j + 1 := ⟨k - 1, by omega⟩
  unfold scriptoriumref01_Num.f
  simp only [scriptoriumref01_Num.j0]
  by_cases h1 : n < 0
  · have e : numOf n = ([], 2) := if_pos (.inl h1)
    rw [if_pos h1, if_pos trivial, e]
  · rw [if_neg h1]
    by_cases h2 : 9007199254740991 < n
    · have e : numOf n = ([], 2) := if_pos (.inr h2)
      rw [if_pos (decide_eq_true h2), e]
    · have hd : decide (n > 9007199254740991) = false := decide_eq_false h2
      have e : numOf n = (encN n.toNat, 0) := if_neg (by omega)
      rw [hd, if_neg (by simp), e]
      obtain ⟨m, rfl⟩ := Int.eq_ofNat_of_zero_le (show 0 ≤ n by omega)
      rw [refnum_l0 8 k m [] (lt_pow8 m (by omega)) (by omega) (by simp) (by omega)]
      have hl := enc_len m (by omega)
      unfold encN
      unfold enc at hl ⊢
      rw [List.append_nil, Int.toNat_natCast]
      congr 3
      omega

theorem wf_byts {l : List Int} (h : ∀ x ∈ l, (Lit.int .u8 x).wf = true) : Byts l := by
  intro x hx
  have := h x hx
  simp only [Lit.wf, Bool.and_eq_true, decide_eq_true_eq] at this
  have hmin : IntKind.u8.min = 0 := rfl
  have hmax : IntKind.u8.max = 255 := rfl
  omega
theorem takeNum_f (l : List Int) (h : Byts l) (hl : l.length < 140737488355328) : quill_TakeNum.f l = some (qTake l) := if_pos ⟨(isByts_iff l).2 h, hl⟩
theorem takeStr_f (l : List Int) (m : Int) (h : Byts l) (hl : l.length < 140737488355328) : quill_TakeStr.f l m = some (qTakeStr l m) := if_pos ⟨(isByts_iff l).2 h, hl⟩

theorem qNum_lt7 (t : List Int) (ht : Byts t) (i : Nat) (hi : i ≤ 7) : 0 ≤ qNum (t.take i) ∧ qNum (t.take i) < 72057594037927936 := by
  obtain ⟨h0, h1⟩ := qNum_bd (t.take i) (ht.take i)
  refine ⟨h0, Int.lt_of_lt_of_le h1 ?_⟩
  have h2 : 256 ^ (t.take i).length ≤ 256 ^ 7 := Nat.pow_le_pow_right (by decide) (by rw [List.length_take]; omega)
  have h3 : (256 : Int) ^ (t.take i).length ≤ 256 ^ 7 := by
    have := Int.ofNat_le.2 h2
    rwa [Int.natCast_pow, Int.natCast_pow] at this
  exact Int.le_trans h3 (by decide)
theorem reftake_l0 (b : Nat) (t : List Int) (hb : b ≤ 7) (hlen : b ≤ t.length) (ht : Byts t) (hl : t.length ≤ 140737488351232) : ∀ (d k i : Nat), i + d = b → d + 100 < k →
    scriptoriumref01_TakeNum.l0 k ((b : Int) :: t) (b : Int) (qNum (t.take i)) ((i + 1 : Nat) : Int) =
      some (if (t.take b).head? = some 0 ∨ 9007199254740991 < qNum (t.take b) then (0, [], 4) else (qNum (t.take b), t.drop b, 0)) := by
  intro d
  induction d with
  | zero =>
    intro k i h1 hk
    obtain ⟨k, rfl⟩ : ∃ j, k = j + 1 := ⟨k - 1, by omega⟩
    obtain rfl : i = b := by omega
    simp only [scriptoriumref01_TakeNum.l0]
    rw [if_neg (by omega), refnum_f k _ (by omega)]
    obtain ⟨hq0, hq1⟩ := qNum_lt7 t ht i hb
    by_cases hbig : 9007199254740991 < qNum (t.take i)
    · have e : numOf (qNum (t.take i)) = ([], 2) := if_pos (.inr hbig)
      rw [e, if_pos (.inr hbig)]
      rfl
    · have e : numOf (qNum (t.take i)) = (encN (qNum (t.take i)).toNat, 0) := if_neg (by omega)
      have hn : (qNum (t.take i)).toNat ≤ 9007199254740991 := by omega
      have hle := encN_len _ hn
      have hw : wrap64 (1 + (i : Int)) = ((i + 1 : Nat) : Int) := by unfold wrap64; omega
      have htk : ((i : Int) :: t).take ((i + 1 : Nat) : Int).toNat = (i : Int) :: t.take i := by rw [Int.toNat_natCast, List.take_succ_cons]
      have hdr : ((i : Int) :: t).drop ((i + 1 : Nat) : Int).toNat = t.drop i := by rw [Int.toNat_natCast, List.drop_succ_cons]
      have hol : (t.take i).length = i := by rw [List.length_take]; omega
      rw [e, hw]
      simp only [Option.bind_some, if_true]
      rw [if_pos (by omega), if_pos (by rw [List.length_cons]; omega), htk, hdr, eqB k _ _ (by omega) (by omega)]
      simp only [Option.bind_some]
      by_cases hh : (t.take i).head? = some 0
      · have hne : ¬ encN (qNum (t.take i)).toNat = (i : Int) :: t.take i := by
          intro e
          unfold encN at e
          have := (List.cons.inj e).2
          exact enc_head _ hn (by rw [this]; exact hh)
        have hR : (if (t.take i).head? = some 0 ∨ 9007199254740991 < qNum (t.take i) then ((0, [], 4) : Int × List Int × Int) else (qNum (t.take i), t.drop i, 0)) = (0, [], 4) := if_pos (.inl hh)
        rw [decide_eq_false hne, hR]
        rfl
      · have heq : encN (qNum (t.take i)).toNat = (i : Int) :: t.take i := by
          unfold encN
          rw [enc_of _ (ht.take i) (by omega) hh, hol]
        have hc := copyB (t.drop i) (by rw [List.length_drop]; omega)
        have hR : (if (t.take i).head? = some 0 ∨ 9007199254740991 < qNum (t.take i) then ((0, [], 4) : Int × List Int × Int) else (qNum (t.take i), t.drop i, 0)) = (qNum (t.take i), t.drop i, 0) := if_neg (by rintro (h | h); exact hh h; exact hbig h)
        rw [decide_eq_true heq, if_pos rfl, hc, hR]
        rfl
  | succ d ih =>
    intro k i h1 hk
    obtain ⟨k, rfl⟩ : ∃ j, k = j + 1 := ⟨k - 1, by omega⟩
    have hi : i < t.length := by omega
    obtain ⟨hq0, hq1⟩ := qNum_lt7 t ht i (by omega)
    obtain ⟨hp0, hp1⟩ := qNum_lt7 t ht (i + 1) (by omega)
    have hs : t.take (i + 1) = t.take i ++ [t[i]] := by rw [List.take_succ_eq_append_getElem hi]
    have hx := ht t[i] (List.getElem_mem hi)
    have hr : rd ((b : Int) :: t) ((i + 1 : Nat) : Int) = t[i] := by
      rw [rd_get _ (i + 1) (by rw [List.length_cons]; omega)]
      rfl
    have hv : wrap64 (wrap64 (qNum (t.take i) * 256) + wrap64 t[i]) = qNum (t.take (i + 1)) := by
      rw [hs, qNum_snoc] at hp0 hp1 ⊢
      unfold wrap64
      omega
    simp only [scriptoriumref01_TakeNum.l0]
    rw [if_pos (by omega), if_pos (by omega), if_pos (by rw [List.length_cons]; omega), hr, hv]
    have hw : wrap64 (((i + 1 : Nat) : Int) + 1) = ((i + 1 + 1 : Nat) : Int) := by unfold wrap64; omega
    rw [hw]
    exact ih k (i + 1) (by omega) (by omega)
theorem reftake_f (k : Nat) (l : List Int) (hb : Byts l) (hl : l.length ≤ 140737488351232) (hk : 120 < k) : scriptoriumref01_TakeNum.f k l = some (qTake l) := by
  unfold scriptoriumref01_TakeNum.f
  cases l with
  | nil => rfl
  | cons b t =>
    have hx := hb b (by simp)
    have hr : rd (b :: t) 0 = b := rfl
    have hw : wrap64 b = b := by unfold wrap64; omega
    have hw2 : wrap64 (1 + b) = 1 + b := by unfold wrap64; omega
    rw [List.length_cons] at hl
    rw [if_neg (by rw [List.length_cons]; omega), if_pos (by rw [List.length_cons]; omega), hr, hw, hw2, qTake_cons]
    by_cases h1 : b > 7
    · rw [if_pos h1, if_pos h1]
    · rw [if_neg h1, if_neg h1]
      by_cases h2 : (t.length : Int) < b
      · rw [if_pos (by rw [List.length_cons]; omega), if_pos h2]
      · rw [if_neg (by rw [List.length_cons]; omega), if_neg h2]
        obtain ⟨m, rfl⟩ := Int.eq_ofNat_of_zero_le hx.1
        have := reftake_l0 m t (by omega) (by omega) hb.tail (by omega) m k 0 (by omega) (by omega)
        rw [Int.toNat_natCast]
        exact this
theorem reftakeStr_f (k : Nat) (l : List Int) (most : Int) (hb : Byts l) (hl : l.length ≤ 140737488351232) (hk : 120 < k) : scriptoriumref01_TakeStr.f k l most = some (qTakeStr l most) := by
  unfold scriptoriumref01_TakeStr.f qTakeStr
  by_cases h1 : most < 0
  · rw [if_pos h1, if_pos h1]
  · rw [if_neg h1, if_neg h1, reftake_f k l hb hl hk]
    simp only [Option.bind_some]
    have hbd := qTake_bd l hb
    have hln := qTake_len l
    by_cases h2 : (qTake l).2.2 = 0
    · rw [if_pos h2, if_neg (show ¬ ((qTake l).2.2 ≠ 0) from fun h => h h2)]
      by_cases h3 : (qTake l).1 > most
      · rw [if_pos h3, if_pos h3]
      · rw [if_neg h3, if_neg h3]
        by_cases h4 : (qTake l).1 > ((qTake l).2.1.length : Int)
        · rw [if_pos h4, if_pos h4]
        · have hc := copyB ((qTake l).2.1.drop (qTake l).1.toNat) (by rw [List.length_drop]; omega)
          rw [if_neg h4, if_neg h4, if_pos hbd.1, if_pos (by omega), hc]
          rfl
    · rw [if_neg h2, if_pos h2]

theorem takes_l1 (l : List Int) (hl : l.length ≤ 140737488351232) : ∀ (d k i : Nat) (x : List Int), i + d = x.length → x.length ≤ 140737488351232 → d + l.length + 100 < k →
    scriptoriumlaw01_QuillTakes.l1 k l l x (i : Int) = some true := by
  intro d
  induction d with
  | zero =>
    intro k i x h1 hx hk
    obtain ⟨k, rfl⟩ : ∃ j, k = j + 1 := ⟨k - 1, by omega⟩
    simp only [scriptoriumlaw01_QuillTakes.l1]
    have e0 : scriptoriumlaw01_works.f = some true := rfl
    rw [if_neg (by omega), eqB k l l (by omega) (by omega), e0, decide_eq_true rfl]
    rfl
  | succ d ih =>
    intro k i x h1 hx hk
    obtain ⟨k, rfl⟩ : ∃ j, k = j + 1 := ⟨k - 1, by omega⟩
    simp only [scriptoriumlaw01_QuillTakes.l1]
    have hw : wrap64 ((i : Int) + 1) = ((i + 1 : Nat) : Int) := by unfold wrap64; omega
    rw [if_pos (by omega), if_pos (by omega), hw]
    exact ih k (i + 1) _ (by rw [List.length_set]; omega) (by rw [List.length_set]; omega) (by omega)
theorem takes_l0 (l y : List Int) (hl : l.length ≤ 140737488351232) (hy : y.length ≤ 140737488351232) : ∀ (d k i : Nat) (x : List Int), i + d = x.length → x.length ≤ 140737488351232 → d + y.length + l.length + 200 < k →
    scriptoriumlaw01_QuillTakes.l0 k l l x y (i : Int) = some true := by
  intro d
  induction d with
  | zero =>
    intro k i x h1 hx hk
    obtain ⟨k, rfl⟩ : ∃ j, k = j + 1 := ⟨k - 1, by omega⟩
    simp only [scriptoriumlaw01_QuillTakes.l0]
    rw [if_neg (by omega)]
    exact takes_l1 l hl y.length k 0 y (by omega) hy (by omega)
  | succ d ih =>
    intro k i x h1 hx hk
    obtain ⟨k, rfl⟩ : ∃ j, k = j + 1 := ⟨k - 1, by omega⟩
    simp only [scriptoriumlaw01_QuillTakes.l0]
    have hw : wrap64 ((i : Int) + 1) = ((i + 1 : Nat) : Int) := by unfold wrap64; omega
    rw [if_pos (by omega), if_pos (by omega), hw]
    exact ih k (i + 1) _ (by rw [List.length_set]; omega) (by rw [List.length_set]; omega) (by omega)
theorem qTakeStr_len (l : List Int) (m : Int) : (qTakeStr l m).2.1.length ≤ l.length := by
  have := qTake_len l
  unfold qTakeStr
  split
  · simp
  · split
    · simp
    · split
      · simp
      · split
        · simp
        · show ((qTake l).2.1.drop _).length ≤ _
          rw [List.length_drop]
          omega
theorem QuillTakes : scriptoriumlaw01_QuillTakes.Pure := by
  intro l most hm hl hw hmo
  have hb := wf_byts hw
  obtain ⟨K, hK⟩ : ∃ K, K = 3 * l.length + 1000 := ⟨_, rfl⟩
  refine ⟨K, ?_⟩
  unfold scriptoriumlaw01_QuillTakes.f
  rw [copyB l hl]
  simp only [Option.bind_some]
  have h1 := qTake_len l
  have h2 := qTakeStr_len l most
  rw [takeNum_f l hb (by omega), reftake_f K l hb (by omega) (by omega), takeStr_f l _ hb (by omega), reftakeStr_f K l most hb (by omega) (by omega)]
  simp only [Option.bind_some, if_true]
  rw [eqB K _ _ (by omega) (by omega), decide_eq_true rfl, eqB K _ _ (by omega) (by omega), decide_eq_true rfl]
  simp only [Option.bind_some, if_true]
  obtain ⟨k, rfl⟩ : ∃ j, K = j + 1 := ⟨K - 1, by omega⟩
  simp only [scriptoriumlaw01_QuillTakes.j0]
  rw [if_neg (by simp)]
  exact takes_l0 l _ (by omega) (by omega) _ k 0 _ (Nat.zero_add _) (by omega) (by omega)

end Go.Proofs.Ytclbcmblgbinpaa.Pure
