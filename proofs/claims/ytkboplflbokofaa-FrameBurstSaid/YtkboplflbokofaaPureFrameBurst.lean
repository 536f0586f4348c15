/- Up to 32 bits, one behind the other, of what is in a record and its sum are turned: Next answers ErrSum. The law FrameBurst, its pure statement. -/
import Derived.Test.YtkboplflbokofaaPFrameBurstx
import Derived.Test.YtkboplflbokofaaQuillEnc
set_option linter.unusedVariables false
set_option linter.unusedSimpArgs false
namespace Go.Proofs.Ytkboplflbokofaa.Pure
open Go.RowKit Go.Proofs.Ytkboplflbokofaa.PFrameBurst Go.Proofs.YtkboplflbokofaaW.PrintWords Go.Proofs.YtkboplflbokofaaW.PrintLast Go.Proofs.YtkboplflbokofaaW.PrintMore
theorem wrap64_id (x : Int) (h0 : -9223372036854775808 ≤ x) (h1 : x < 9223372036854775808) : wrap64 x = x := by unfold wrap64; omega
theorem rd_get (l : List Int) (i : Nat) (h : i < l.length) : rd l (i : Int) = l[i] := by
  simp [rd, List.getD_eq_getElem?_getD, List.getElem?_eq_getElem h]
theorem eqB_l0 (l m : List Int) (hl : l.length = m.length) (hm : l.length ≤ 9223372036854775807) : ∀ (d k i : Nat), i + d = l.length → d < k →
    scriptoriumref00_EqBytes.l0 k l m (i : Int) = some (decide (l.drop i = m.drop i)) := by
  intro d
  induction d with
  | zero =>
    intro k i h1 hk
    obtain ⟨k, rfl⟩ : ∃ j, k = j + 1 := ⟨k - 1, by omega⟩
    simp only [scriptoriumref00_EqBytes.l0]
    rw [if_neg (by omega), List.drop_of_length_le (by omega), List.drop_of_length_le (by omega)]
    simp
  | succ d ih =>
    intro k i h1 hk
    obtain ⟨k, rfl⟩ : ∃ j, k = j + 1 := ⟨k - 1, by omega⟩
    have hil : i < l.length := by omega
    have him : i < m.length := by omega
    simp only [scriptoriumref00_EqBytes.l0]
    rw [if_pos (by omega), if_pos (by omega), if_pos (by omega), rd_get l i hil, rd_get m i him, wrap64_id _ (by omega) (by omega)]
    have e : ((i : Int) + 1) = ((i + 1 : Nat) : Int) := by omega
    rw [e, ih k (i + 1) (by omega) (by omega)]
    have e1 := List.drop_eq_getElem_cons hil
    have e2 := List.drop_eq_getElem_cons him
    rw [e1, e2]
    by_cases hx : l[i] = m[i]
    · rw [if_pos hx, hx]
      congr 1
      apply decide_eq_decide.2
      constructor
      · intro h; rw [h]
      · intro h; exact (List.cons.inj h).2
    · rw [if_neg hx]
      have : ¬ (l[i] :: l.drop (i + 1) = m[i] :: m.drop (i + 1)) := fun h => hx (List.cons.inj h).1
      rw [decide_eq_false this]
theorem eqB (k : Nat) (l m : List Int) (hm : l.length ≤ 9223372036854775807) (hk : l.length < k) : scriptoriumref00_EqBytes.f k l m = some (decide (l = m)) := by
  unfold scriptoriumref00_EqBytes.f
  by_cases hl : l.length = m.length
  · rw [if_pos (by omega)]
    have := eqB_l0 l m hl hm l.length k 0 (by omega) hk
    simpa using this
  · rw [if_neg (by omega)]
    have : ¬ l = m := fun e => hl (by rw [e])
    simp [this]

theorem more_rounds {α : Type} {f : Nat → Option α} (h : ∀ k, LeO (f k) (f (k + 1))) {j k : Nat} (hjk : j ≤ k) {r : α} (e : f j = some r) : f k = some r := by
  induction k with
  | zero => obtain rfl : j = 0 := by omega
            exact e
  | succ k ih =>
    by_cases hj : j = k + 1
    · subst hj; exact e
    · exact h k r (ih (by omega))

theorem rev_loop (l : List Int) (hn : l.length ≤ 4611686018427387904) : ∀ (d k i : Nat) (cur : List Int), i + d = l.length / 2 → d < k → cur.length = l.length →
    (∀ p, p < l.length → cur[p]? = if p < i ∨ l.length - 1 - p < i then l[l.length - 1 - p]? else l[p]?) →
    slices_Reverse_byte_byte.l0 k cur (i : Int) ((l.length : Int) - 1 - (i : Int)) = some l.reverse := by
  intro d
  induction d with
  | zero =>
    intro k i cur h1 hk hl hc
    obtain ⟨k, rfl⟩ : ∃ j, k = j + 1 := ⟨k - 1, by omega⟩
    simp only [slices_Reverse_byte_byte.l0]
    rw [if_neg (by omega)]
    congr 1
    apply List.ext_getElem?
    intro p
    by_cases hp : p < l.length
    · rw [hc p hp, List.getElem?_reverse hp]
      by_cases h2 : p < i ∨ l.length - 1 - p < i
      · rw [if_pos h2]
      · rw [if_neg h2]
        congr 1
        omega
    · rw [List.getElem?_eq_none (by omega), List.getElem?_eq_none (by rw [List.length_reverse]; omega)]
  | succ d ih =>
    intro k i cur h1 hk hl hc
    obtain ⟨k, rfl⟩ : ∃ j, k = j + 1 := ⟨k - 1, by omega⟩
    obtain ⟨j, hj⟩ : ∃ j : Nat, (l.length : Int) - 1 - (i : Int) = (j : Int) := ⟨l.length - 1 - i, by omega⟩
    have hij : i < j := by omega
    have hjl : j < l.length := by omega
    have w1 : RowKit.wrap64 ((i : Int) + 1) = ((i + 1 : Nat) : Int) := by unfold RowKit.wrap64; omega
    have w2 : RowKit.wrap64 ((j : Int) - 1) = (l.length : Int) - 1 - ((i + 1 : Nat) : Int) := by unfold RowKit.wrap64; omega
    simp only [slices_Reverse_byte_byte.l0]
    rw [hj, if_pos (by omega), if_pos (by omega), if_pos (by omega), if_pos (by omega), if_pos (by omega), w1, w2, Int.toNat_natCast, Int.toNat_natCast, rd_get cur j (by omega), rd_get cur i (by omega)]
    have hci := hc i (by omega)
    have hcj := hc j hjl
    rw [if_neg (by omega), List.getElem?_eq_getElem (by omega), List.getElem?_eq_getElem (by omega)] at hci hcj
    have hci' := Option.some.inj hci
    have hcj' := Option.some.inj hcj
    refine ih k (i + 1) _ (by omega) (by omega) (by rw [List.length_set, List.length_set]; exact hl) ?_
    intro p hp
    rw [List.getElem?_set, List.getElem?_set, List.length_set]
    by_cases e1 : j = p
    · subst e1
      rw [if_pos rfl, if_pos (by omega), if_pos (by omega), hci', ← List.getElem?_eq_getElem]
      congr 1
      omega
    · rw [if_neg e1]
      by_cases e2 : i = p
      · subst e2
        rw [if_pos rfl, if_pos (by omega), if_pos (by omega), hcj', ← List.getElem?_eq_getElem]
        congr 1
        omega
      · rw [if_neg e2, hc p hp]
        by_cases h2 : p < i ∨ l.length - 1 - p < i
        · rw [if_pos h2, if_pos (by omega)]
        · rw [if_neg h2, if_neg (by omega)]
theorem rev_f (k : Nat) (l : List Int) (hn : l.length ≤ 4611686018427387904) (hk : l.length / 2 < k) : slices_Reverse_byte_byte.f k l = some l.reverse := by
  unfold slices_Reverse_byte_byte.f
  have w : RowKit.wrap64 ((l.length : Int) - 1) = (l.length : Int) - 1 - ((0 : Nat) : Int) := by unfold RowKit.wrap64; omega
  rw [w]
  have h := rev_loop l hn (l.length / 2) k 0 l (by omega) hk rfl (fun p hp => by rw [if_neg (by omega)])
  rw [show ((0 : Nat) : Int) = 0 from rfl] at h ⊢
  exact h

/-- What Num answers. -/
def numOf (n : Int) : List Int × Int := if n < 0 ∨ 9007199254740991 < n then ([], 2) else (encN n.toNat, 0)
theorem leD_stable (f : Nat) : ∀ n j, n < 256 ^ j → j ≤ f → leD f n = leD j n := by
  induction f with
  | zero => intro n j _ h2; obtain rfl : j = 0 := by omega
            rfl
  | succ f ih =>
    intro n j h hj
    cases j with
    | zero => simp at h; subst h; rw [leD_zero, leD_zero]
    | succ j =>
      unfold leD
      by_cases h0 : n = 0
      · rw [if_pos h0, if_pos h0]
      · rw [if_neg h0, if_neg h0, ih (n / 256) j (by rw [Nat.pow_succ] at h; omega) (by omega)]
theorem num_l0 : ∀ (d k n : Nat) (acc : List Int), n < 256 ^ d → acc.length + d ≤ 100 → d + 60 < k →
    quill_Num.l0 k (n : Int) acc = some ((((acc ++ leD d n).length : Int)) % 256 :: (acc ++ leD d n).reverse, 0) := by
  intro d
  induction d with
  | zero =>
    intro k n acc h hl hk
    obtain ⟨k, rfl⟩ : ∃ j, k = j + 1 := ⟨k - 1, by omega⟩
    simp at h
    subst h
    simp only [quill_Num.l0]
    rw [if_neg (by omega), rev_f k acc (by omega) (by omega)]
    simp only [Option.bind_some]
    rw [if_pos (by simp; omega), leD_zero, List.append_nil]
    rfl
  | succ d ih =>
    intro k n acc h hl hk
    obtain ⟨k, rfl⟩ : ∃ j, k = j + 1 := ⟨k - 1, by omega⟩
    simp only [quill_Num.l0]
    by_cases h0 : n = 0
    · subst h0
      rw [if_neg (by omega), rev_f k acc (by omega) (by omega)]
      simp only [Option.bind_some]
      rw [if_pos (by simp; omega), leD_zero, List.append_nil]
      rfl
    · have h2 : n / 256 < 256 ^ d := by rw [Nat.pow_succ] at h; omega
      rw [if_pos (by omega), if_pos (by omega)]
      have e1 : ((n : Int) / 256) = ((n / 256 : Nat) : Int) := by omega
      have e2 : ((n : Int) % 256) = ((n % 256 : Nat) : Int) := by omega
      rw [e1, e2, ih k (n / 256) _ h2 (by rw [List.length_append]; simp; omega) (by omega)]
      have e3 : leD (d + 1) n = ((n % 256 : Nat) : Int) :: leD d (n / 256) := by
        show (if n = 0 then _ else _) = _
        rw [if_neg h0]
      rw [e3, List.append_assoc]
      rfl
theorem num_f (k : Nat) (n : Int) (hk : 80 < k) : quill_Num.f k n = some (numOf n) := by
  obtain ⟨k, rfl⟩ : ∃ j, k = j + 1 := ⟨k - 1, by omega⟩
  unfold quill_Num.f
  simp only [quill_Num.j0]
  by_cases h1 : n < 0
  · have e : numOf n = ([], 2) := if_pos (.inl h1)
    rw [if_pos h1, if_pos trivial, e]
  · rw [if_neg h1]
    by_cases h2 : 9007199254740991 < n
    · have e : numOf n = ([], 2) := if_pos (.inr h2)
      rw [if_pos (decide_eq_true h2), e]
    · have hd : decide (n > 9007199254740991) = false := decide_eq_false h2
      have e : numOf n = (encN n.toNat, 0) := if_neg (by omega)
      rw [hd, if_neg (by simp), e]
      obtain ⟨m, rfl⟩ := Int.eq_ofNat_of_zero_le (show 0 ≤ n by omega)
      rw [num_l0 8 k m [] (lt_pow8 m (by omega)) (by simp) (by omega)]
      have hl := enc_len m (by omega)
      unfold encN enc
      unfold enc at hl
      rw [List.length_reverse] at hl ⊢
      rw [List.nil_append, Int.toNat_natCast]
      congr 3
      omega

/-- A sum's bytes, the highest one first. -/
def sumB (s : Int) : List Int := [shr .u32 s 24 % 256, shr .u32 s 16 % 256, shr .u32 s 8 % 256, shr .u32 s 0 % 256]
theorem w64_lit (x : Int) (h0 : -9223372036854775808 ≤ x) (h1 : x < 9223372036854775808) : wrap64 x = x := by unfold wrap64; omega
theorem sum_f (k : Nat) (l : List Int) (hk : 10 < k) : frame_sum.f k l = some (sumB (crcAdd 0 l)) := by
  obtain ⟨k, rfl⟩ : ∃ j, k = j + 5 := ⟨k - 5, by omega⟩
  have ec : crc_Of.f l = some (crcAdd 0 l) := rfl
  unfold frame_sum.f
  rw [ec]
  simp only [Option.bind_some]
  rw [if_pos (by decide)]
  generalize crcAdd 0 l = s
  have l4 : ((List.replicate 4 (0 : Int)).length : Int) = 4 := rfl
  rw [l4]
  have e : List.replicate 4 (0 : Int) = [0, 0, 0, 0] := rfl
  rw [e]
  have a0 : wrap64 (0 + 1) = 1 := w64_lit _ (by omega) (by omega)
  have a1 : wrap64 (1 + 1) = 2 := w64_lit _ (by omega) (by omega)
  have a2 : wrap64 (2 + 1) = 3 := w64_lit _ (by omega) (by omega)
  have a3 : wrap64 (3 + 1) = 4 := w64_lit _ (by omega) (by omega)
  have b0 : wrap64 (8 * wrap64 (3 - 0)) = 24 := by rw [w64_lit (3 - 0) (by omega) (by omega), w64_lit _ (by omega) (by omega)]; rfl
  have b1 : wrap64 (8 * wrap64 (3 - 1)) = 16 := by rw [w64_lit (3 - 1) (by omega) (by omega), w64_lit _ (by omega) (by omega)]; rfl
  have b2 : wrap64 (8 * wrap64 (3 - 2)) = 8 := by rw [w64_lit (3 - 2) (by omega) (by omega), w64_lit _ (by omega) (by omega)]; rfl
  have b3 : wrap64 (8 * wrap64 (3 - 3)) = 0 := by rw [w64_lit (3 - 3) (by omega) (by omega), w64_lit _ (by omega) (by omega)]; rfl
  simp only [frame_sum.l0, a0, a1, a2, a3, b0, b1, b2, b3]
  rfl
theorem sumB_len (s : Int) : (sumB s).length = 4 := rfl
theorem sumB_byts (s : Int) : Byts (sumB s) := by
  unfold sumB
  refine Byts.cons ⟨by omega, by omega⟩ (Byts.cons ⟨by omega, by omega⟩ (Byts.cons ⟨by omega, by omega⟩ (Byts.cons ⟨by omega, by omega⟩ Byts.nil)))
theorem sumB_inj (s t : Int) (hs : 0 ≤ s ∧ s < 4294967296) (ht : 0 ≤ t ∧ t < 4294967296) (h : sumB s = sumB t) : s = t := by
  unfold sumB shr at h
  injection h with h0 h
  injection h with h1 h
  injection h with h2 h
  injection h with h3 _
  have e0 : (2 : Int) ^ min (24 : Int).toNat IntKind.u32.bits = 16777216 := by decide
  have e1 : (2 : Int) ^ min (16 : Int).toNat IntKind.u32.bits = 65536 := by decide
  have e2 : (2 : Int) ^ min (8 : Int).toNat IntKind.u32.bits = 256 := by decide
  have e3 : (2 : Int) ^ min (0 : Int).toNat IntKind.u32.bits = 1 := by decide
  rw [e0] at h0
  rw [e1] at h1
  rw [e2] at h2
  rw [e3] at h3
  omega

/-- What stands ahead of the sum; a record. -/
def frB (p : List Int) : List Int := encN p.length ++ p
def frE (p : List Int) : List Int := frB p ++ sumB (crcAdd 0 (frB p))
theorem numOf_nat' (n : Nat) (h : n ≤ 9007199254740991) : numOf (n : Int) = (encN n, 0) := by
  unfold numOf
  rw [if_neg (by omega), Int.toNat_natCast]
theorem frame_f (k : Nat) (p : List Int) (hk : 100 < k) (hl : p.length ≤ 65536) : frame_Frame.f k p = some (frE p, 0) := by
  have he := encN_len p.length (by omega)
  unfold frame_Frame.f
  rw [if_neg (by omega), num_f k _ (by omega), numOf_nat' p.length (by omega), Option.bind_some]
  dsimp only
  rw [if_pos rfl]
  have hc : slices_Concat_byte_byte.f [encN p.length, p] = some (frB p) := by
    unfold slices_Concat_byte_byte.f
    have h1 : sumLen [encN p.length, p] = (encN p.length).length + (p.length + 0) := rfl
    rw [if_pos (by rw [h1]; omega)]
    have h2 : [encN p.length, p].flatten = encN p.length ++ (p ++ []) := rfl
    rw [h2, List.append_nil]
    rfl
  rw [hc, Option.bind_some, sum_f k _ (by omega), Option.bind_some, if_pos (by rw [sumB_len]; unfold frB; rw [List.length_append]; omega)]
  rfl
theorem frame_long (k : Nat) (p : List Int) (hl : 65536 < p.length) : frame_Frame.f k p = some ([], 5) := by
  unfold frame_Frame.f
  rw [if_pos (by omega)]
theorem eqS_l0 (l m : List Int) (hl : l.length = m.length) (hm : l.length ≤ 9223372036854775807) : ∀ (d k i : Nat), i + d = l.length → d < k →
    slices_Equal_byte_byte.l0 k l m (l.length : Int) (i : Int) = some (decide (l.drop i = m.drop i)) := by
  intro d
  induction d with
  | zero =>
    intro k i h1 hk
    obtain ⟨k, rfl⟩ : ∃ j, k = j + 1 := ⟨k - 1, by omega⟩
    simp only [slices_Equal_byte_byte.l0]
    rw [if_neg (by omega), List.drop_of_length_le (by omega), List.drop_of_length_le (by omega)]
    simp
  | succ d ih =>
    intro k i h1 hk
    obtain ⟨k, rfl⟩ : ∃ j, k = j + 1 := ⟨k - 1, by omega⟩
    have hil : i < l.length := by omega
    have him : i < m.length := by omega
    simp only [slices_Equal_byte_byte.l0]
    rw [if_pos (by omega), if_pos (by omega), if_pos (by omega), if_pos (by omega), rd_get l i hil, rd_get m i him, wrap64_id _ (by omega) (by omega)]
    have e : ((i : Int) + 1) = ((i + 1 : Nat) : Int) := by omega
    rw [e, ih k (i + 1) (by omega) (by omega)]
    have e1 := List.drop_eq_getElem_cons hil
    have e2 := List.drop_eq_getElem_cons him
    rw [e1, e2]
    by_cases hx : l[i] = m[i]
    · rw [if_pos hx, hx]
      congr 1
      apply decide_eq_decide.2
      constructor
      · intro h; rw [h]
      · intro h; exact (List.cons.inj h).2
    · rw [if_neg hx]
      have : ¬ (l[i] :: l.drop (i + 1) = m[i] :: m.drop (i + 1)) := fun h => hx (List.cons.inj h).1
      rw [decide_eq_false this]
theorem eqS (k : Nat) (l m : List Int) (hm : l.length ≤ 9223372036854775807) (hk : l.length < k) : slices_Equal_byte_byte.f k l m = some (decide (l = m)) := by
  unfold slices_Equal_byte_byte.f
  by_cases hl : l.length = m.length
  · rw [if_pos (by omega)]
    have := eqS_l0 l m hl hm l.length k 0 (by omega) hk
    simpa using this
  · rw [if_neg (by omega)]
    have : ¬ l = m := fun e => hl (by rw [e])
    simp [this]
theorem takeNum_f' (l : List Int) (h : Byts l) (hl : l.length < 140737488355328) : quill_TakeNum.f l = some (qTake l) := if_pos ⟨(isByts_iff l).2 h, hl⟩
/-- What next tells of bytes that begin with a number. -/
def nextOf (n : Nat) (rest : List Int) : Int × Int × Int :=
  if 65536 < n then (0, 0, 5) else if rest.length < n + 4 then (0, 0, 3)
  else if (rest.drop n).take 4 = sumB (crcAdd 0 (encN n ++ rest.take n)) then (((encN n).length : Int), (((encN n).length + n : Nat) : Int), 0) else (0, 0, 40)
theorem next_f (k : Nat) (n : Nat) (rest : List Int) (hk : 100 < k) (hn : n ≤ 9007199254740991) (hb : Byts (encN n ++ rest)) (hl : (encN n ++ rest).length < 140737488355328) :
    frame_next.f k (encN n ++ rest) = some (nextOf n rest) := by
  have he := encN_len n hn
  rw [List.length_append] at hl
  unfold frame_next.f nextOf
  rw [takeNum_f' _ hb (by rw [List.length_append]; exact hl), qTake_encN n hn rest, Option.bind_some]
  dsimp only
  rw [if_pos rfl]
  by_cases c1 : 65536 < n
  · rw [if_pos (by omega), if_pos c1]
  rw [if_neg (by omega), if_neg c1, wrap64_id _ (by omega) (by omega)]
  by_cases c2 : rest.length < n + 4
  · rw [if_pos (by omega), if_pos c2]
  rw [if_neg (by omega), if_neg c2]
  have w1 : wrap64 (((encN n ++ rest).length : Int) - (rest.length : Int)) = ((encN n).length : Int) := by
    rw [List.length_append, wrap64_id _ (by omega) (by omega)]
    omega
  have w2 : wrap64 (((encN n).length : Int) + (n : Int)) = (((encN n).length + n : Nat) : Int) := by rw [wrap64_id _ (by omega) (by omega)]; omega
  have w3 : wrap64 ((((encN n).length + n : Nat) : Int) + 4) = (((encN n).length + n + 4 : Nat) : Int) := by rw [wrap64_id _ (by omega) (by omega)]; omega
  rw [w1, w2, w3, if_pos (by omega), if_pos (by omega), if_pos (by rw [List.length_append]; omega), if_pos (by rw [List.length_append]; omega), sum_f k _ (by omega), Option.bind_some, Int.toNat_natCast, Int.toNat_natCast]
  have t1 : (encN n ++ rest).take ((encN n).length + n) = encN n ++ rest.take n := by rw [List.take_append, List.take_of_length_le (by omega), Nat.add_sub_cancel_left]
  have t2 : ((encN n ++ rest).take ((encN n).length + n + 4)).drop ((encN n).length + n) = (rest.drop n).take 4 := by
    rw [Nat.add_assoc, List.take_append, List.take_of_length_le (by omega), Nat.add_sub_cancel_left, ← List.drop_drop, List.drop_left, List.drop_take, Nat.add_sub_cancel_left]
  rw [t1, t2, eqS k _ _ (by rw [List.length_take, List.length_drop]; omega) (by rw [List.length_take, List.length_drop]; omega), Option.bind_some]
  by_cases c3 : (rest.drop n).take 4 = sumB (crcAdd 0 (encN n ++ rest.take n))
  · rw [if_pos (decide_eq_true c3), if_pos c3]
  · rw [decide_eq_false c3, if_neg (by simp), if_neg c3]
theorem next_err (k : Nat) (l : List Int) (hb : Byts l) (hl : l.length < 140737488355328) (h : (qTake l).2.2 ≠ 0) : frame_next.f k l = some (0, 0, (qTake l).2.2) := by
  unfold frame_next.f
  rw [takeNum_f' _ hb hl, Option.bind_some, if_neg h]
/-- What Next tells. -/
theorem Next_no (k : Nat) (l : List Int) (e : Int) (h : frame_next.f k l = some (0, 0, e)) (he : e ≠ 0) : frame_Next.f k l = some ([], 0, e) := by
  unfold frame_Next.f
  rw [h, Option.bind_some]
  dsimp only
  rw [if_neg he]
/-- Next tells just of what is a record, and what comes behind it. -/
theorem Next_cases (k : Nat) (l : List Int) (hk : 100 < k) (hb : Byts l) (hl : l.length < 140737488355328) :
    (∃ e, (e = 3 ∨ e = 4 ∨ e = 5 ∨ e = 40) ∧ frame_Next.f k l = some ([], 0, e)) ∨
    (∃ p r, p.length ≤ 65536 ∧ l = frE p ++ r ∧ frame_Next.f k l = some (p, ((frE p).length : Int), 0)) := by
  by_cases h0 : (qTake l).2.2 = 0
  · obtain ⟨n, hn, _, h2⟩ := qTake_ok l hb h0
    generalize (qTake l).2.1 = rest at h2
    subst h2
    have he := encN_len n hn
    have hf := next_f k n rest hk hn hb hl
    unfold nextOf at hf
    rw [List.length_append] at hl
    by_cases c1 : 65536 < n
    · rw [if_pos c1] at hf
      exact .inl ⟨5, by omega, Next_no k _ 5 hf (by decide)⟩
    rw [if_neg c1] at hf
    by_cases c2 : rest.length < n + 4
    · rw [if_pos c2] at hf
      exact .inl ⟨3, by omega, Next_no k _ 3 hf (by decide)⟩
    rw [if_neg c2] at hf
    by_cases c3 : (rest.drop n).take 4 = sumB (crcAdd 0 (encN n ++ rest.take n))
    · rw [if_pos c3] at hf
      have hpl : (rest.take n).length = n := by rw [List.length_take]; omega
      have e1 : frE (rest.take n) = encN n ++ rest.take n ++ (rest.drop n).take 4 := by
        unfold frE frB
        rw [hpl, c3]
      refine .inr ⟨rest.take n, rest.drop (n + 4), by omega, ?_, ?_⟩
      · rw [e1, List.append_assoc, List.append_assoc, ← List.drop_drop, List.take_append_drop, List.take_append_drop]
      · unfold frame_Next.f
        rw [hf, Option.bind_some]
        dsimp only
        rw [if_pos rfl, if_pos (by omega), if_pos (by omega), if_pos (by rw [List.length_append]; omega), Int.toNat_natCast, Int.toNat_natCast]
        have t1 : ((encN n ++ rest).take ((encN n).length + n)).drop (encN n).length = rest.take n := by
          rw [List.take_append, List.take_of_length_le (by omega), Nat.add_sub_cancel_left, List.drop_left]
        have hc : slices_Clone_byte_byte.f (rest.take n) = some (rest.take n) := if_pos (by omega)
        rw [t1, hc, Option.bind_some, wrap64_id _ (by omega) (by omega)]
        have e2 : (frE (rest.take n)).length = (encN n).length + n + 4 := by
          rw [e1, List.length_append, List.length_append, hpl, List.length_take, List.length_drop]
          omega
        rw [e2]
        rfl
    · rw [if_neg c3] at hf
      exact .inl ⟨40, by omega, Next_no k _ 40 hf (by decide)⟩
  · have h1 := next_err k l hb hl h0
    obtain ⟨_, _, h3⟩ := qTake_err l h0
    exact .inl ⟨(qTake l).2.2, by omega, Next_no k _ _ h1 h0⟩
theorem crc_bd (l : List Int) : 0 ≤ crcAdd 0 l ∧ crcAdd 0 l < 4294967296 := crcAdd_bd 0 l
theorem frB_byts (p : List Int) (h : Byts p) (hl : p.length ≤ 65536) : Byts (frB p) := (encN_byts _ (by omega)).append h
theorem frE_byts (p : List Int) (h : Byts p) (hl : p.length ≤ 65536) : Byts (frE p) := (frB_byts p h hl).append (sumB_byts _)
theorem frE_len (p : List Int) : (frE p).length = (encN p.length).length + p.length + 4 := by
  unfold frE frB
  rw [List.length_append, List.length_append, sumB_len]
/-- A record, and what comes behind it: Next tells it. -/
theorem Next_yes (k : Nat) (p r : List Int) (hk : 100 < k) (hp : p.length ≤ 65536) (hb : Byts (frE p ++ r)) (hl : (frE p ++ r).length < 140737488355328) : frame_Next.f k (frE p ++ r) = some (p, ((frE p).length : Int), 0) := by
  have he := encN_len p.length (by omega)
  have hL := frE_len p
  have e1 : frE p ++ r = encN p.length ++ (p ++ (sumB (crcAdd 0 (frB p)) ++ r)) := by unfold frE frB; simp only [List.append_assoc]
  rw [List.length_append] at hl
  have hf := next_f k p.length (p ++ (sumB (crcAdd 0 (frB p)) ++ r)) hk (by omega) (by rw [← e1]; exact hb) (by rw [← e1, List.length_append]; exact hl)
  unfold nextOf at hf
  rw [if_neg (by omega), if_neg (by rw [List.length_append, List.length_append, sumB_len]; omega), List.drop_left, List.take_left] at hf
  have t4 : (sumB (crcAdd 0 (frB p)) ++ r).take 4 = sumB (crcAdd 0 (frB p)) := List.take_left' (sumB_len _)
  rw [t4, if_pos (show sumB (crcAdd 0 (frB p)) = sumB (crcAdd 0 (encN p.length ++ p)) from rfl), ← e1] at hf
  unfold frame_Next.f
  rw [hf, Option.bind_some]
  dsimp only
  rw [if_pos rfl, if_pos (by omega), if_pos (by omega), if_pos (by rw [List.length_append]; omega), Int.toNat_natCast, Int.toNat_natCast]
  have t1 : ((frE p ++ r).take ((encN p.length).length + p.length)).drop (encN p.length).length = p := by
    rw [e1, List.take_append, List.take_of_length_le (by omega), Nat.add_sub_cancel_left, List.drop_left, List.take_left]
  have hc : slices_Clone_byte_byte.f p = some p := if_pos (by omega)
  rw [t1, hc, Option.bind_some, wrap64_id _ (by omega) (by omega), hL]
  rfl

theorem wf_byts {l : List Int} (h : ∀ x ∈ l, (Lit.int .u8 x).wf = true) : Byts l := by
  intro x hx
  have := h x hx
  simp only [Lit.wf, Bool.and_eq_true, decide_eq_true_eq] at this
  have hmin : IntKind.u8.min = 0 := rfl
  have hmax : IntKind.u8.max = 255 := rfl
  omega

theorem bring_some (a n : Int) (h : 0 < n) (hn : n ≤ 4611686018427387904) : ∃ r, scriptoriumref00_Bring.f a n = some r ∧ 0 ≤ r ∧ r < n := by
  unfold scriptoriumref00_Bring.f
  have h1 := Int.tmod_lt_of_pos a h
  have h2 : -n < Int.tmod a n := by
    have := Int.lt_tmod_of_pos a h
    omega
  rw [if_neg (by omega), if_neg (by omega)]
  by_cases h3 : Int.tmod a n < 0
  · rw [if_pos h3]
    refine ⟨_, rfl, ?_⟩
    have : RowKit.wrap64 (Int.tmod a n + n) = Int.tmod a n + n := by unfold RowKit.wrap64; omega
    rw [this]
    omega
  · rw [if_neg h3]
    exact ⟨_, rfl, by omega, by omega⟩

theorem mn_cut (l : List Int) (m : Nat) (hm : (l.length : Int) ≤ 9223372036854775807) : mn (l.length : Int) (m : Int) = ((min l.length m : Nat) : Int) ∧ l.take (min l.length m) = l.take m := by
  constructor
  · unfold mn
    split <;> omega
  · rcases Nat.le_total l.length m with h | h
    · rw [Nat.min_eq_left h, List.take_of_length_le (Nat.le_refl _), List.take_of_length_le h]
    · rw [Nat.min_eq_right h]

theorem works_f (k : Nat) (hk : 120 ≤ k) : scriptoriumlaw04_works.f k = some true := more_rounds scriptoriumlaw04_works.mono hk (by kernel_rfl)

def topw : BitVec 32 := 1#32 <<< 31
theorem bfold_xor_left (l : List (BitVec 8)) : ∀ A B : BitVec 32, bfold (A ^^^ B) l = bfold A l ^^^ bsteps (8 * l.length) B := by
  induction l with
  | nil => intro A B; rfl
  | cons c l ih =>
    intro A B
    show bfold (btake (A ^^^ B) c) l = bfold (btake A c) l ^^^ _
    have e : btake (A ^^^ B) c = btake A c ^^^ bsteps 8 B := by
      unfold btake
      rw [← bsteps_xor]
      generalize up c = u
      exact congrArg (bsteps 8) (show (A ^^^ B) ^^^ u = (A ^^^ u) ^^^ B by ac_rfl)
    have e3 : 8 * (c :: l).length = 8 + 8 * l.length := by rw [List.length_cons]; omega
    rw [e, ih, ← bsteps_add, e3]
theorem btake_xor_right (s : BitVec 32) (a b : BitVec 8) : btake s (a ^^^ b) = btake s a ^^^ bsteps 8 (up b) := by
  unfold btake
  rw [← bsteps_xor, up_xor, BitVec.xor_assoc]
theorem topw_shr (j : Nat) (h : j < 32) : bsteps j (topw >>> j) = topw := by
  have e : topw >>> j = 1#32 <<< (31 - j) := by
    have : ∀ j : Fin 32, topw >>> (j : Nat) = 1#32 <<< (31 - (j : Nat)) := by decide +kernel
    exact this ⟨j, h⟩
  have e2 : topw >>> j <<< j = topw := by
    have : ∀ j : Fin 32, topw >>> (j : Nat) <<< (j : Nat) = topw := by decide +kernel
    exact this ⟨j, h⟩
  rw [bsteps_small j _ (by omega) ?_, e2]
  have : ∀ j : Fin 32, (topw >>> (j : Nat)).toNat < 2 ^ (32 - (j : Nat)) := by decide +kernel
  exact this ⟨j, h⟩
theorem bsteps_topw (m j : Nat) (h : j < 32) (hm : j ≤ m) : bsteps m (topw >>> j) = bsteps (m - j) topw := by
  have e : m = j + (m - j) := by omega
  conv => lhs; rw [e]
  rw [bsteps_add, topw_shr j h]
theorem up_bit (r : Nat) (h : r < 8) : up (128#8 >>> r) = topw >>> r := by
  have : ∀ r : Fin 8, up (128#8 >>> (r : Nat)) = topw >>> (r : Nat) := by decide +kernel
  exact this ⟨r, h⟩
/-- One bit is turned. -/
theorem bfold_flip (l : List (BitVec 8)) (q r : Nat) (hq : q < l.length) (hr : r < 8) (s : BitVec 32) :
    bfold s (l.set q (l[q] ^^^ (128#8 >>> r))) = bfold s l ^^^ bsteps (8 * l.length - (8 * q + r)) topw := by
  have e1 : l.set q (l[q] ^^^ (128#8 >>> r)) = l.take q ++ (l[q] ^^^ (128#8 >>> r)) :: l.drop (q + 1) := List.set_eq_take_append_cons_drop .. |>.trans (by simp [hq])
  have e2 : l = l.take q ++ l[q] :: l.drop (q + 1) := by simp
  rw [e1]
  conv => rhs; lhs; rw [e2]
  rw [bfold_append, bfold_append]
  show bfold (btake (bfold s (l.take q)) (l[q] ^^^ (128#8 >>> r))) (l.drop (q + 1)) = bfold (btake (bfold s (l.take q)) l[q]) (l.drop (q + 1)) ^^^ _
  rw [btake_xor_right, bfold_xor_left, up_bit r hr, ← bsteps_add, bsteps_topw _ r (by omega) (by omega)]
  have e4 : 8 + 8 * (l.drop (q + 1)).length - r = 8 * l.length - (8 * q + r) := by rw [List.length_drop]; omega
  rw [e4]
theorem ws_set (l : List Int) (i : Nat) (x : Int) : ws (l.set i x) = (ws l).set i (w8 x) := by
  unfold ws; rw [List.map_set]
theorem Bytes_set (l : List Int) (i : Nat) (x : Int) (h : Bytes l) (hx : 0 ≤ x ∧ x < 256) : Bytes (l.set i x) := by
  intro y hy
  rcases List.mem_or_eq_of_mem_set hy with h1 | rfl
  · exact h y h1
  · exact hx
theorem ws_length (l : List Int) : (ws l).length = l.length := List.length_map ..
theorem ws_get (l : List Int) (i : Nat) (h : i < l.length) : (ws l)[i]'(by rw [ws_length]; exact h) = w8 l[i] := List.getElem_map ..
theorem shr128 (r : Nat) (h : r < 8) : w8 (shr .u8 128 (r : Int)) = 128#8 >>> r := by
  have : ∀ r : Fin 8, w8 (shr .u8 128 ((r : Nat) : Int)) = 128#8 >>> (r : Nat) := by decide +kernel
  exact this ⟨r, h⟩
/-- What a burst of turned bits from bit 'at' on makes of the sum: M has the turned bits, the first one highest; i of them have been looked at. -/
structure Burst (S : BitVec 32) (b c : List Int) (at_ i : Nat) (turned : Bool) (M : BitVec 32) : Prop where
  len : c.length = b.length
  bytes : Bytes c
  fold : bfold S (ws c) = bfold S (ws b) ^^^ bsteps (8 * b.length - at_) M
  low : ∀ t, t < 32 - i → M.getLsbD t = false
  is : turned = decide (M ≠ 0#32)
theorem Burst.init (S : BitVec 32) (b : List Int) (at_ : Nat) (h : Bytes b) : Burst S b b at_ 0 false 0#32 where
  len := rfl
  bytes := h
  fold := by rw [bsteps_zero, BitVec.xor_zero]
  low := by intro t _; simp
  is := by decide +kernel
theorem Burst.skip {S : BitVec 32} {b c : List Int} {at_ i : Nat} {turned : Bool} {M : BitVec 32} (h : Burst S b c at_ i turned M) : Burst S b c at_ (i + 1) turned M :=
  { h with low := fun t ht => h.low t (by omega) }
theorem Burst.turn {S : BitVec 32} {b c : List Int} {at_ i : Nat} {turned : Bool} {M : BitVec 32} (h : Burst S b c at_ i turned M) (hi : i < 32) (hp : at_ + i < 8 * b.length) (x : Int)
    (hx : x = c[(at_ + i) / 8]'(by rw [h.len]; omega)) :
    Burst S b (c.set ((at_ + i) / 8) (Go.bits .xor .u8 x (shr .u8 128 (((at_ + i) % 8 : Nat) : Int)))) at_ (i + 1) true (M ^^^ (topw >>> i)) where
  len := by rw [List.length_set, h.len]
  bytes := Bytes_set _ _ _ h.bytes (by rw [xor8]; exact n8_bd _)
  fold := by
    have hq : (at_ + i) / 8 < c.length := by rw [h.len]; omega
    rw [ws_set, xor8, w8_n8, shr128 _ (by omega), hx, ← ws_get c _ hq, bfold_flip _ _ _ (by rw [ws_length]; exact hq) (by omega), h.fold, bsteps_xor, ← BitVec.xor_assoc, bsteps_topw _ i hi (by omega)]
    have e5 : 8 * (ws c).length - (8 * ((at_ + i) / 8) + (at_ + i) % 8) = 8 * b.length - at_ - i := by rw [ws_length, h.len]; omega
    rw [e5]
  low := by
    intro t ht
    rw [BitVec.getLsbD_xor, h.low t (by omega)]
    have : ∀ (i : Fin 32) (t : Fin 32), (t : Nat) < 32 - ((i : Nat) + 1) → (topw >>> (i : Nat)).getLsbD (t : Nat) = false := by decide +kernel
    rw [this ⟨i, hi⟩ ⟨t, by omega⟩ ht]
    rfl
  is := by
    symm
    rw [decide_eq_true_iff]
    intro e
    have h1 : (M ^^^ (topw >>> i)).getLsbD (31 - i) = false := by rw [e]; simp
    rw [BitVec.getLsbD_xor, h.low (31 - i) (by omega)] at h1
    have : ∀ (i : Fin 32), (topw >>> (i : Nat)).getLsbD (31 - (i : Nat)) = true := by decide +kernel
    rw [this ⟨i, hi⟩] at h1
    cases h1
theorem Burst.sums {S : BitVec 32} {b c : List Int} {at_ i : Nat} {turned : Bool} {M : BitVec 32} (h : Burst S b c at_ i turned M) : (bfold S (ws b) = bfold S (ws c)) ↔ turned = false := by
  rw [h.fold, h.is]
  constructor
  · intro e
    have e2 := congrArg (fun x => bfold S (ws b) ^^^ x) e
    simp only [BitVec.xor_self, ← BitVec.xor_assoc, BitVec.zero_xor] at e2
    have := bsteps_eq_zero _ _ e2.symm
    rw [decide_eq_false_iff_not]
    exact fun hn => hn this
  · intro e
    rw [decide_eq_false_iff_not] at e
    have : M = 0#32 := Decidable.not_not.1 e
    rw [this, bsteps_zero, BitVec.xor_zero]

/-- Bytes and their own sum behind them always come to the same. -/
def zx (b : BitVec 8) (n : Nat) : BitVec 32 := b.setWidth 32 <<< n
theorem zx_lt (b : BitVec 8) : (b.setWidth 32).toNat < 256 := by
  rw [BitVec.toNat_setWidth]
  have := b.isLt
  omega
theorem bsteps_zx (b : BitVec 8) (n m : Nat) (h : n + m = 24) : bsteps n (zx b m) = up b := by
  have h1 := zx_lt b
  have hz : (zx b m).toNat < 2 ^ (32 - n) := by
    unfold zx
    rw [BitVec.toNat_shiftLeft, Nat.shiftLeft_eq]
    have h2 : (b.setWidth 32).toNat * 2 ^ m < 2 ^ 8 * 2 ^ m := Nat.mul_lt_mul_of_pos_right h1 (Nat.two_pow_pos m)
    rw [← Nat.pow_add, show 8 + m = 32 - n by omega] at h2
    exact Nat.lt_of_le_of_lt (Nat.mod_le _ _) h2
  rw [bsteps_small n _ (by omega) hz]
  unfold zx up
  rw [← BitVec.shiftLeft_add, show m + n = 24 by omega]
theorem zx_parts (V : BitVec 32) : zx ((V >>> 24).setWidth 8) 24 ^^^ zx ((V >>> 16).setWidth 8) 16 ^^^ zx ((V >>> 8).setWidth 8) 8 ^^^ zx ((V >>> 0).setWidth 8) 0 = V := by
  apply BitVec.eq_of_getLsbD_eq
  intro i hi
  unfold zx
  simp only [BitVec.getLsbD_xor, BitVec.getLsbD_shiftLeft, BitVec.getLsbD_setWidth, BitVec.getLsbD_ushiftRight]
  rcases (show i < 8 ∨ (8 ≤ i ∧ i < 16) ∨ (16 ≤ i ∧ i < 24) ∨ 24 ≤ i by omega) with h | ⟨h, h'⟩ | ⟨h, h'⟩ | h
  · simp [hi, h, show i < 24 by omega, show i < 16 by omega]
  · have e : 8 + (i - 8) = i := by omega
    simp [hi, h', show i < 24 by omega, show ¬ i < 8 by omega, show i - 8 < 32 by omega, show i - 8 < 8 by omega, e]
  · have e : 16 + (i - 16) = i := by omega
    simp [hi, h', show ¬ i < 16 by omega, show ¬ i < 8 by omega, show i - 16 < 32 by omega, show i - 16 < 8 by omega, show ¬ (i - 8 < 8) by omega, e]
  · have e : 24 + (i - 24) = i := by omega
    simp [hi, show ¬ i < 24 by omega, show ¬ i < 16 by omega, show ¬ i < 8 by omega, show i - 24 < 32 by omega, show i - 24 < 8 by omega, show ¬ (i - 16 < 8) by omega, show ¬ (i - 8 < 8) by omega, e]
theorem bfold_four (T : BitVec 32) (a b c d : BitVec 8) : bfold T [a, b, c, d] = bsteps 32 (T ^^^ (zx a 24 ^^^ zx b 16 ^^^ zx c 8 ^^^ zx d 0)) := by
  have e : bfold T [a, b, c, d] = bsteps 8 (bsteps 8 (bsteps 8 (bsteps 8 (T ^^^ up a) ^^^ up b) ^^^ up c) ^^^ up d) := rfl
  have ha : up a = zx a 24 := rfl
  have hb : bsteps 32 (zx b 16) = bsteps 24 (up b) := by rw [← bsteps_zx b 8 16 rfl, ← bsteps_add]
  have hc : bsteps 32 (zx c 8) = bsteps 16 (up c) := by rw [← bsteps_zx c 16 8 rfl, ← bsteps_add]
  have hd : bsteps 32 (zx d 0) = bsteps 8 (up d) := by rw [← bsteps_zx d 24 0 rfl, ← bsteps_add]
  rw [e, bsteps_xor 32, bsteps_xor 32, bsteps_xor 32, bsteps_xor 32, hb, hc, hd, ha]
  simp only [bsteps_xor]
  simp only [← bsteps_add, Nat.reduceAdd, BitVec.xor_assoc]
theorem w8_shr (V : BitVec 32) (s : Nat) (hs : s ≤ 32) : w8 (shr .u32 (n32 V) (s : Int) % 256) = (V >>> s).setWidth 8 := by
  unfold w8 shr n32
  apply BitVec.eq_of_toNat_eq
  rw [BitVec.toNat_setWidth, BitVec.toNat_ushiftRight, Nat.shiftRight_eq_div_pow, BitVec.toNat_ofInt]
  have e : min (s : Int).toNat IntKind.u32.bits = s := by rw [Int.toNat_natCast]; exact Nat.min_eq_left hs
  rw [e]
  have e2 : ((V.toNat : Int) / (2 : Int) ^ s) = ((V.toNat / 2 ^ s : Nat) : Int) := by simp
  rw [e2]
  omega
theorem ws_sumB (V : BitVec 32) : ws (sumB (n32 V)) = [(V >>> 24).setWidth 8, (V >>> 16).setWidth 8, (V >>> 8).setWidth 8, (V >>> 0).setWidth 8] := by
  have e : ws (sumB (n32 V)) = [w8 (shr .u32 (n32 V) 24 % 256), w8 (shr .u32 (n32 V) 16 % 256), w8 (shr .u32 (n32 V) 8 % 256), w8 (shr .u32 (n32 V) 0 % 256)] := rfl
  rw [e, ← w8_shr V 24 (by omega), ← w8_shr V 16 (by omega), ← w8_shr V 8 (by omega), ← w8_shr V 0 (by omega)]
  rfl
theorem residue (A : List Int) (hA : Bytes A) : bfold (BitVec.allOnes 32) (ws (A ++ sumB (crcAdd 0 A))) = bsteps 32 (BitVec.allOnes 32) := by
  have e : ws (A ++ sumB (crcAdd 0 A)) = ws A ++ ws (sumB (crcAdd 0 A)) := List.map_append ..
  rw [e, bfold_append, crcAdd_zero A hA, ws_sumB, bfold_four, zx_parts]
  generalize bfold (BitVec.allOnes 32) (ws A) = T
  rw [← not_eq T, ← BitVec.xor_assoc, BitVec.xor_comm T, BitVec.xor_assoc, BitVec.xor_self, BitVec.xor_zero]

def ones : BitVec 32 := BitVec.allOnes 32
/-- What Next tells of a record's bytes with other ones behind the number. -/
theorem burst_next (k : Nat) (p c : List Int) (hk : 3000 < k) (hp : p.length ≤ 2000) (hpb : Byts p) (hc : Byts c) (hlen : c.length = (frE p).length) (hpre : c.take (encN p.length).length = encN p.length)
    (hne : bfold ones (ws c) ≠ bfold ones (ws (frE p))) : frame_Next.f k c = some ([], 0, 40) := by
  have he := encN_len p.length (by omega)
  have hL := frE_len p
  obtain ⟨rest, hr⟩ : ∃ rest, c = encN p.length ++ rest := ⟨c.drop (encN p.length).length, by
    have h := (List.take_append_drop (encN p.length).length c).symm
    rw [hpre] at h
    exact h⟩
  subst hr
  rw [List.length_append] at hlen
  have hf := next_f k p.length rest (by omega) (by omega) hc (by rw [List.length_append]; omega)
  unfold nextOf at hf
  rw [if_neg (by omega), if_neg (by omega)] at hf
  have t4 : (rest.drop p.length).take 4 = rest.drop p.length := List.take_of_length_le (by rw [List.length_drop]; omega)
  rw [t4] at hf
  by_cases c3 : rest.drop p.length = sumB (crcAdd 0 (encN p.length ++ rest.take p.length))
  · exfalso
    apply hne
    have e1 : encN p.length ++ rest = (encN p.length ++ rest.take p.length) ++ sumB (crcAdd 0 (encN p.length ++ rest.take p.length)) := by
      rw [← c3, List.append_assoc, List.take_append_drop]
    have hA : Byts (encN p.length ++ rest.take p.length) := by
      intro x hx
      apply hc x
      rw [e1]
      exact List.mem_append_left _ hx
    have h1 := residue _ hA
    have h2 := residue (frB p) (frB_byts p hpb (by omega))
    rw [← e1] at h1
    exact h1.trans h2.symm
  · rw [if_neg c3] at hf
    exact Next_no k _ 40 hf (by decide)
theorem burst_loop (p : List Int) (hp : p.length ≤ 2000) (hpb : Byts p) (bits : Int) (at_ : Nat) (hat : at_ < 8 * (frE p).length) (hat2 : 8 * (encN p.length).length ≤ at_) :
    ∀ (d k i : Nat) (c : List Int) (turned : Bool) (M : BitVec 32), i + d = 32 → 2 * d + 3100 < k → Burst ones (frE p) c at_ i turned M → c.take (encN p.length).length = encN p.length → (turned = false → c = frE p) →
      scriptoriumlaw04_FrameBurst.l0 k p bits c (at_ : Int) turned (i : Int) = some true := by
  have he := encN_len p.length (by omega)
  have hL := frE_len p
  have hE := frE_byts p hpb (by omega)
  have fin : ∀ (k : Nat) (c : List Int) (turned : Bool) (i : Nat) (M : BitVec 32), 3050 < k → Burst ones (frE p) c at_ i turned M → c.take (encN p.length).length = encN p.length → (turned = false → c = frE p) →
      ((frame_Next.f k c).bind fun bt234 => (if turned = true then (if bt234.2.2 = 40 then (if bt234.2.1 = 0 then (some ((bt234.1.length : Int) == 0)) else (some false)) else (some false)) else (if bt234.2.2 = 0 then (if bt234.2.1 = (c.length : Int) then ((scriptoriumref00_EqBytes.f k bt234.1 p).bind fun t239 => (some t239)) else (some false)) else (some false)))) = some true := by
    intro k c turned i M hk h hpre hsame
    cases turned with
    | true =>
      have hne : bfold ones (ws c) ≠ bfold ones (ws (frE p)) := by
        intro e
        have := h.sums.1 e.symm
        cases this
      rw [burst_next k p c (by omega) hp hpb h.bytes h.len hpre hne, Option.bind_some]
      rfl
    | false =>
      obtain rfl := hsame rfl
      have hy := Next_yes k p [] (by omega) (by omega) (by rw [List.append_nil]; exact hE) (by rw [List.append_nil]; omega)
      rw [List.append_nil] at hy
      rw [hy, Option.bind_some]
      dsimp only
      rw [if_neg (by simp), if_pos rfl, if_pos rfl, eqB k p p (by omega) (by omega), Option.bind_some]
      simp
  intro d
  induction d with
  | zero =>
    intro k i c turned M h1 hk h hpre hsame
    obtain ⟨k, rfl⟩ : ∃ j, k = j + 2 := ⟨k - 2, by omega⟩
    simp only [scriptoriumlaw04_FrameBurst.l0]
    rw [if_neg (by omega)]
    simp only [scriptoriumlaw04_FrameBurst.j2, Bool.false_eq_true, if_false]
    exact fin k c turned i M (by omega) h hpre hsame
  | succ d ih =>
    intro k i c turned M h1 hk h hpre hsame
    obtain ⟨k, rfl⟩ : ∃ j, k = j + 2 := ⟨k - 2, by omega⟩
    have hcl : c.length = (frE p).length := h.len
    have hge : (encN p.length).length ≤ (at_ + i) / 8 := by
      rw [Nat.le_div_iff_mul_le (by decide)]
      clear hL he hcl hat
      omega
    have hlt : (frE p).length ≤ 3000 := by clear hat hat2; omega
    have hal : at_ + i < 40000 := by clear he hL hat2 hge; omega
    have hk2 : 3050 < k := by clear he hL hat hat2 hge hal; omega
    have hk3 : 2 * d + 3100 < k := by clear he hL hat hat2 hge hal; omega
    have h32 : i < 32 := by clear he hL hat hat2 hge hal; omega
    have h11 : i + 1 + d = 32 := by clear he hL hat hat2 hge hal; omega
    clear he hL hat hat2 h1 hk
    simp only [scriptoriumlaw04_FrameBurst.l0]
    rw [if_pos (show (i : Int) < 32 by omega)]
    have w1 : wrap64 ((at_ : Int) + (i : Int)) = ((at_ + i : Nat) : Int) := by unfold wrap64; omega
    have w2 : wrap64 (8 * (c.length : Int)) = ((8 * c.length : Nat) : Int) := by unfold wrap64; omega
    have w3 : wrap64 ((i : Int) + 1) = ((i + 1 : Nat) : Int) := by unfold wrap64; omega
    rw [w1, w2]
    simp only [scriptoriumlaw04_FrameBurst.j2]
    rw [w1, w3]
    clear w1 w2 w3
    by_cases hp1 : at_ + i < 8 * (frE p).length
    · have hq : (at_ + i) / 8 < c.length := by rw [hcl]; exact Nat.div_lt_of_lt_mul hp1
      have hp' : ((at_ + i : Nat) : Int) < ((8 * c.length : Nat) : Int) := by rw [hcl]; exact Int.ofNat_lt.2 hp1
      have t1 : Int.tdiv ((at_ + i : Nat) : Int) 8 = (((at_ + i) / 8 : Nat) : Int) := by
        generalize at_ + i = z
        rw [Int.tdiv_eq_ediv_of_nonneg (by omega)]; omega
      have t2 : Int.tmod ((at_ + i : Nat) : Int) 8 = (((at_ + i) % 8 : Nat) : Int) := by
        generalize at_ + i = z
        rw [Int.tmod_eq_emod_of_nonneg (by omega)]; omega
      have w4 : wrap64 (((at_ + i) / 8 : Nat) : Int) = (((at_ + i) / 8 : Nat) : Int) := by
        clear hq hp' t1 t2 hp1
        generalize at_ + i = z at *
        unfold wrap64; omega
      have hi0 : (0 : Int) ≤ (i : Int) := Int.natCast_nonneg _
      have hq0 : (0 : Int) ≤ (((at_ + i) / 8 : Nat) : Int) := Int.natCast_nonneg _
      have hr0 : (0 : Int) ≤ (((at_ + i) % 8 : Nat) : Int) := Int.natCast_nonneg _
      rw [if_pos (decide_eq_true hp'), if_pos hi0, t1, t2, w4]
      clear t1 t2 w4
      by_cases hbit : Go.bits .and .u32 (shr .u32 bits (i : Int)) 1 = 1
      · rw [if_pos hbit, if_pos hq0, if_pos (Int.ofNat_lt.2 hq), if_pos hr0, Int.toNat_natCast, rd_get c _ hq]
        have hh := h.turn h32 hp1 _ rfl
        refine ih k (i + 1) _ true _ h11 hk3 hh ?_ (fun e => by cases e)
        rw [List.take_set_of_le hge]
        exact hpre
      · rw [if_neg hbit]
        exact ih k (i + 1) _ turned _ h11 hk3 h.skip hpre hsame
    · have hp' : ¬ ((at_ + i : Nat) : Int) < ((8 * c.length : Nat) : Int) := by rw [hcl]; exact fun h => hp1 (Int.ofNat_lt.1 h)
      have hd := decide_eq_false hp'
      rw [hd, if_neg (by simp)]
      exact fin k c turned i M hk2 h hpre hsame
theorem FrameBurst : scriptoriumlaw04_FrameBurst.Pure := by
  intro l a bits hm hl hw ha hbits
  have hb := wf_byts hw
  obtain ⟨K, hK⟩ : ∃ K, K = 4000 := ⟨_, rfl⟩
  refine ⟨K + 1, ?_⟩
  obtain ⟨m1, m2⟩ := mn_cut l 2000 (by omega)
  have m1' : mn (l.length : Int) 2000 = ((min l.length 2000 : Nat) : Int) := m1
  unfold scriptoriumlaw04_FrameBurst.f
  rw [works_f (K + 1) (by omega), Option.bind_some, if_pos rfl, m1', if_pos (by omega), if_pos (by omega), Int.toNat_natCast, m2]
  obtain ⟨p, hp⟩ : ∃ p, p = l.take 2000 := ⟨_, rfl⟩
  rw [← hp]
  have hpb : Byts p := by rw [hp]; exact hb.take 2000
  have hpl : p.length ≤ 2000 := by rw [hp, List.length_take]; omega
  have hL := frE_len p
  have he := encN_len p.length (by omega)
  have hE := frE_byts p hpb (by omega)
  rw [frame_f (K + 1) p (by omega) (by omega), Option.bind_some]
  dsimp only
  rw [if_pos rfl, wrap64_id ((p.length : Int) + 5) (by omega) (by omega)]
  have hd : decide (((frE p).length : Int) < (p.length : Int) + 5) = false := decide_eq_false (by omega)
  rw [hd]
  unfold scriptoriumlaw04_FrameBurst.j0
  dsimp only
  have w0 : wrap64 (wrap64 (((frE p).length : Int) - (p.length : Int)) - 4) = ((encN p.length).length : Int) := by
    rw [wrap64_id (((frE p).length : Int) - (p.length : Int)) (by omega) (by omega), wrap64_id _ (by omega) (by omega)]
    omega
  have w1 : wrap64 (8 * ((frE p).length : Int)) = ((8 * (frE p).length : Nat) : Int) := by rw [wrap64_id _ (by omega) (by omega)]; omega
  have w2 : wrap64 (8 * ((encN p.length).length : Int)) = ((8 * (encN p.length).length : Nat) : Int) := by rw [wrap64_id _ (by omega) (by omega)]; omega
  have w3 : wrap64 (((8 * (frE p).length : Nat) : Int) - ((8 * (encN p.length).length : Nat) : Int)) = ((8 * (frE p).length - 8 * (encN p.length).length : Nat) : Int) := by rw [wrap64_id _ (by omega) (by omega)]; omega
  rw [w0, w1, w2, w3]
  obtain ⟨r0, hr, hr0, hr1⟩ := bring_some a ((8 * (frE p).length - 8 * (encN p.length).length : Nat) : Int) (by omega) (by omega)
  rw [if_neg (by simp), hr, Option.bind_some]
  obtain ⟨b, rfl⟩ := Int.eq_ofNat_of_zero_le hr0
  have w4 : wrap64 (((8 * (encN p.length).length : Nat) : Int) + (b : Int)) = ((8 * (encN p.length).length + b : Nat) : Int) := by rw [wrap64_id _ (by omega) (by omega)]; omega
  rw [w4]
  have hpre : (frE p).take (encN p.length).length = encN p.length := by
    unfold frE frB
    rw [List.append_assoc, List.take_left]
  have q1 : 8 * (encN p.length).length + b < 8 * (frE p).length := by
    clear w0 w1 w2 w3 w4 hr hd m1 m1' hK he
    omega
  have q3 : 2 * 32 + 3100 < K := by rw [hK]; decide
  exact burst_loop p hpl hpb bits (8 * (encN p.length).length + b) q1 (Nat.le_add_right _ _) 32 K 0 (frE p) false 0#32 rfl q3 (Burst.init _ (frE p) _ hE) hpre (fun _ => rfl)

end Go.Proofs.Ytkboplflbokofaa.Pure
