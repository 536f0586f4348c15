/- The chapter's examples, both ends: the law FrameKnown, its pure statement. -/
import Derived.Test.YtkboplflbokofaaPFrameKnownx
import Derived.Test.YtkboplflbokofaaQuillEnc
set_option linter.unusedVariables false
set_option linter.unusedSimpArgs false
namespace Go.Proofs.Ytkboplflbokofaa.Pure
open Go.RowKit Go.Proofs.Ytkboplflbokofaa.PFrameKnown Go.Proofs.YtkboplflbokofaaW.PrintWords Go.Proofs.YtkboplflbokofaaW.PrintLast Go.Proofs.YtkboplflbokofaaW.PrintMore
theorem wrap64_id (x : Int) (h0 : -9223372036854775808 ≤ x) (h1 : x < 9223372036854775808) : wrap64 x = x := by unfold wrap64; omega
theorem rd_get (l : List Int) (i : Nat) (h : i < l.length) : rd l (i : Int) = l[i] := by
  simp [rd, List.getD_eq_getElem?_getD, List.getElem?_eq_getElem h]
theorem eqB_l0 (l m : List Int) (hl : l.length = m.length) (hm : l.length ≤ 9223372036854775807) : ∀ (d k i : Nat), i + d = l.length → d < k →
    scriptoriumref00_EqBytes.l0 k l m (i : Int) = some (decide (l.drop i = m.drop i)) := by
  intro d
  induction d with
  | zero =>
    intro k i h1 hk
    obtain ⟨k, rfl⟩ : ∃ j, k = j + 1 := ⟨k - 1, by omega⟩
    simp only [scriptoriumref00_EqBytes.l0]
    rw [if_neg (by omega), List.drop_of_length_le (by omega), List.drop_of_length_le (by omega)]
    simp
  | succ d ih =>
    intro k i h1 hk
    obtain ⟨k, rfl⟩ : ∃ j, k = j + 1 := ⟨k - 1, by omega⟩
    have hil : i < l.length := by omega
    have him : i < m.length := by omega
    simp only [scriptoriumref00_EqBytes.l0]
    rw [if_pos (by omega), if_pos (by omega), if_pos (by omega), rd_get l i hil, rd_get m i him, wrap64_id _ (by omega) (by omega)]
    have e : ((i : Int) + 1) = ((i + 1 : Nat) : Int) := by omega
    rw [e, ih k (i + 1) (by omega) (by omega)]
    have e1 := List.drop_eq_getElem_cons hil
    have e2 := List.drop_eq_getElem_cons him
    rw [e1, e2]
    by_cases hx : l[i] = m[i]
    · rw [if_pos hx, hx]
      congr 1
      apply decide_eq_decide.2
      constructor
      · intro h; rw [h]
      · intro h; exact (List.cons.inj h).2
    · rw [if_neg hx]
      have : ¬ (l[i] :: l.drop (i + 1) = m[i] :: m.drop (i + 1)) := fun h => hx (List.cons.inj h).1
      rw [decide_eq_false this]
theorem eqB (k : Nat) (l m : List Int) (hm : l.length ≤ 9223372036854775807) (hk : l.length < k) : scriptoriumref00_EqBytes.f k l m = some (decide (l = m)) := by
  unfold scriptoriumref00_EqBytes.f
  by_cases hl : l.length = m.length
  · rw [if_pos (by omega)]
    have := eqB_l0 l m hl hm l.length k 0 (by omega) hk
    simpa using this
  · rw [if_neg (by omega)]
    have : ¬ l = m := fun e => hl (by rw [e])
    simp [this]

theorem copyB (l : List Int) (h : l.length * 1 ≤ 140737488351232) : scriptoriumref00_CopyBytes.f l = some l := by
  unfold scriptoriumref00_CopyBytes.f
  rw [if_pos (by simp; omega)]
  rfl

theorem more_rounds {α : Type} {f : Nat → Option α} (h : ∀ k, LeO (f k) (f (k + 1))) {j k : Nat} (hjk : j ≤ k) {r : α} (e : f j = some r) : f k = some r := by
  induction k with
  | zero => obtain rfl : j = 0 := by omega
            exact e
  | succ k ih =>
    by_cases hj : j = k + 1
    · subst hj; exact e
    · exact h k r (ih (by omega))

theorem rev_loop (l : List Int) (hn : l.length ≤ 4611686018427387904) : ∀ (d k i : Nat) (cur : List Int), i + d = l.length / 2 → d < k → cur.length = l.length →
    (∀ p, p < l.length → cur[p]? = if p < i ∨ l.length - 1 - p < i then l[l.length - 1 - p]? else l[p]?) →
    slices_Reverse_byte_byte.l0 k cur (i : Int) ((l.length : Int) - 1 - (i : Int)) = some l.reverse := by
  intro d
  induction d with
  | zero =>
    intro k i cur h1 hk hl hc
    obtain ⟨k, rfl⟩ : ∃ j, k = j + 1 := ⟨k - 1, by omega⟩
    simp only [slices_Reverse_byte_byte.l0]
    rw [if_neg (by omega)]
    congr 1
    apply List.ext_getElem?
    intro p
    by_cases hp : p < l.length
    · rw [hc p hp, List.getElem?_reverse hp]
      by_cases h2 : p < i ∨ l.length - 1 - p < i
      · rw [if_pos h2]
      · rw [if_neg h2]
        congr 1
        omega
    · rw [List.getElem?_eq_none (by omega), List.getElem?_eq_none (by rw [List.length_reverse]; omega)]
  | succ d ih =>
    intro k i cur h1 hk hl hc
    obtain ⟨k, rfl⟩ : ∃ j, k = j + 1 := ⟨k - 1, by omega⟩
    obtain ⟨j, hj⟩ : ∃ j : Nat, (l.length : Int) - 1 - (i : Int) = (j : Int) := ⟨l.length - 1 - i, by omega⟩
    have hij : i < j := by omega
    have hjl : j < l.length := by omega
    have w1 : RowKit.wrap64 ((i : Int) + 1) = ((i + 1 : Nat) : Int) := by unfold RowKit.wrap64; omega
    have w2 : RowKit.wrap64 ((j : Int) - 1) = (l.length : Int) - 1 - ((i + 1 : Nat) : Int) := by unfold RowKit.wrap64; omega
    simp only [slices_Reverse_byte_byte.l0]
    rw [hj, if_pos (by omega), if_pos (by omega), if_pos (by omega), if_pos (by omega), if_pos (by omega), w1, w2, Int.toNat_natCast, Int.toNat_natCast, rd_get cur j (by omega), rd_get cur i (by omega)]
    have hci := hc i (by omega)
    have hcj := hc j hjl
    rw [if_neg (by omega), List.getElem?_eq_getElem (by omega), List.getElem?_eq_getElem (by omega)] at hci hcj
    have hci' := Option.some.inj hci
    have hcj' := Option.some.inj hcj
    refine ih k (i + 1) _ (by omega) (by omega) (by rw [List.length_set, List.length_set]; exact hl) ?_
    intro p hp
    rw [List.getElem?_set, List.getElem?_set, List.length_set]
    by_cases e1 : j = p
    · subst e1
      rw [if_pos rfl, if_pos (by omega), if_pos (by omega), hci', ← List.getElem?_eq_getElem]
      congr 1
      omega
    · rw [if_neg e1]
      by_cases e2 : i = p
      · subst e2
        rw [if_pos rfl, if_pos (by omega), if_pos (by omega), hcj', ← List.getElem?_eq_getElem]
        congr 1
        omega
      · rw [if_neg e2, hc p hp]
        by_cases h2 : p < i ∨ l.length - 1 - p < i
        · rw [if_pos h2, if_pos (by omega)]
        · rw [if_neg h2, if_neg (by omega)]
theorem rev_f (k : Nat) (l : List Int) (hn : l.length ≤ 4611686018427387904) (hk : l.length / 2 < k) : slices_Reverse_byte_byte.f k l = some l.reverse := by
  unfold slices_Reverse_byte_byte.f
  have w : RowKit.wrap64 ((l.length : Int) - 1) = (l.length : Int) - 1 - ((0 : Nat) : Int) := by unfold RowKit.wrap64; omega
  rw [w]
  have h := rev_loop l hn (l.length / 2) k 0 l (by omega) hk rfl (fun p hp => by rw [if_neg (by omega)])
  rw [show ((0 : Nat) : Int) = 0 from rfl] at h ⊢
  exact h

/-- What Num answers. -/
def numOf (n : Int) : List Int × Int := if n < 0 ∨ 9007199254740991 < n then ([], 2) else (encN n.toNat, 0)
theorem leD_stable (f : Nat) : ∀ n j, n < 256 ^ j → j ≤ f → leD f n = leD j n := by
  induction f with
  | zero => intro n j _ h2; obtain rfl : j = 0 := by omega
            rfl
  | succ f ih =>
    intro n j h hj
    cases j with
    | zero => simp at h; subst h; rw [leD_zero, leD_zero]
    | succ j =>
      unfold leD
      by_cases h0 : n = 0
      · rw [if_pos h0, if_pos h0]
      · rw [if_neg h0, if_neg h0, ih (n / 256) j (by rw [Nat.pow_succ] at h; omega) (by omega)]
theorem num_l0 : ∀ (d k n : Nat) (acc : List Int), n < 256 ^ d → acc.length + d ≤ 100 → d + 60 < k →
    quill_Num.l0 k (n : Int) acc = some ((((acc ++ leD d n).length : Int)) % 256 :: (acc ++ leD d n).reverse, 0) := by
  intro d
  induction d with
  | zero =>
    intro k n acc h hl hk
    obtain ⟨k, rfl⟩ : ∃ j, k = j + 1 := ⟨k - 1, by omega⟩
    simp at h
    subst h
    simp only [quill_Num.l0]
    rw [if_neg (by omega), rev_f k acc (by omega) (by omega)]
    simp only [Option.bind_some]
    rw [if_pos (by simp; omega), leD_zero, List.append_nil]
    rfl
  | succ d ih =>
    intro k n acc h hl hk
    obtain ⟨k, rfl⟩ : ∃ j, k = j + 1 := ⟨k - 1, by omega⟩
    simp only [quill_Num.l0]
    by_cases h0 : n = 0
    · subst h0
      rw [if_neg (by omega), rev_f k acc (by omega) (by omega)]
      simp only [Option.bind_some]
      rw [if_pos (by simp; omega), leD_zero, List.append_nil]
      rfl
    · have h2 : n / 256 < 256 ^ d := by rw [Nat.pow_succ] at h; omega
      rw [if_pos (by omega), if_pos (by omega)]
      have e1 : ((n : Int) / 256) = ((n / 256 : Nat) : Int) := by omega
      have e2 : ((n : Int) % 256) = ((n % 256 : Nat) : Int) := by omega
      rw [e1, e2, ih k (n / 256) _ h2 (by rw [List.length_append]; simp; omega) (by omega)]
      have e3 : leD (d + 1) n = ((n % 256 : Nat) : Int) :: leD d (n / 256) := by
        show (if n = 0 then _ else _) = _
        rw [if_neg h0]
      rw [e3, List.append_assoc]
      rfl
theorem num_f (k : Nat) (n : Int) (hk : 80 < k) : quill_Num.f k n = some (numOf n) := by
  obtain ⟨k, rfl⟩ : ∃ j, k = j + 1 := ⟨k - 1, by omega⟩
  unfold quill_Num.f
  simp only [quill_Num.j0]
  by_cases h1 : n < 0
  · have e : numOf n = ([], 2) := if_pos (.inl h1)
    rw [if_pos h1, if_pos trivial, e]
  · rw [if_neg h1]
    by_cases h2 : 9007199254740991 < n
    · have e : numOf n = ([], 2) := if_pos (.inr h2)
      rw [if_pos (decide_eq_true h2), e]
    · have hd : decide (n > 9007199254740991) = false := decide_eq_false h2
      have e : numOf n = (encN n.toNat, 0) := if_neg (by omega)
      rw [hd, if_neg (by simp), e]
      obtain ⟨m, rfl⟩ := Int.eq_ofNat_of_zero_le (show 0 ≤ n by omega)
      rw [num_l0 8 k m [] (lt_pow8 m (by omega)) (by simp) (by omega)]
      have hl := enc_len m (by omega)
      unfold encN enc
      unfold enc at hl
      rw [List.length_reverse] at hl ⊢
      rw [List.nil_append, Int.toNat_natCast]
      congr 3
      omega

/-- A sum's bytes, the highest one first. -/
def sumB (s : Int) : List Int := [shr .u32 s 24 % 256, shr .u32 s 16 % 256, shr .u32 s 8 % 256, shr .u32 s 0 % 256]
theorem w64_lit (x : Int) (h0 : -9223372036854775808 ≤ x) (h1 : x < 9223372036854775808) : wrap64 x = x := by unfold wrap64; omega
theorem sum_f (k : Nat) (l : List Int) (hk : 10 < k) : frame_sum.f k l = some (sumB (crcAdd 0 l)) := by
  obtain ⟨k, rfl⟩ : ∃ j, k = j + 5 := ⟨k - 5, by omega⟩
  have ec : crc_Of.f l = some (crcAdd 0 l) := rfl
  unfold frame_sum.f
  rw [ec]
  simp only [Option.bind_some]
  rw [if_pos (by decide)]
  generalize crcAdd 0 l = s
  have l4 : ((List.replicate 4 (0 : Int)).length : Int) = 4 := rfl
  rw [l4]
  have e : List.replicate 4 (0 : Int) = [0, 0, 0, 0] := rfl
  rw [e]
  have a0 : wrap64 (0 + 1) = 1 := w64_lit _ (by omega) (by omega)
  have a1 : wrap64 (1 + 1) = 2 := w64_lit _ (by omega) (by omega)
  have a2 : wrap64 (2 + 1) = 3 := w64_lit _ (by omega) (by omega)
  have a3 : wrap64 (3 + 1) = 4 := w64_lit _ (by omega) (by omega)
  have b0 : wrap64 (8 * wrap64 (3 - 0)) = 24 := by rw [w64_lit (3 - 0) (by omega) (by omega), w64_lit _ (by omega) (by omega)]; rfl
  have b1 : wrap64 (8 * wrap64 (3 - 1)) = 16 := by rw [w64_lit (3 - 1) (by omega) (by omega), w64_lit _ (by omega) (by omega)]; rfl
  have b2 : wrap64 (8 * wrap64 (3 - 2)) = 8 := by rw [w64_lit (3 - 2) (by omega) (by omega), w64_lit _ (by omega) (by omega)]; rfl
  have b3 : wrap64 (8 * wrap64 (3 - 3)) = 0 := by rw [w64_lit (3 - 3) (by omega) (by omega), w64_lit _ (by omega) (by omega)]; rfl
  simp only [frame_sum.l0, a0, a1, a2, a3, b0, b1, b2, b3]
  rfl
theorem sumB_len (s : Int) : (sumB s).length = 4 := rfl
theorem sumB_byts (s : Int) : Byts (sumB s) := by
  unfold sumB
  refine Byts.cons ⟨by omega, by omega⟩ (Byts.cons ⟨by omega, by omega⟩ (Byts.cons ⟨by omega, by omega⟩ (Byts.cons ⟨by omega, by omega⟩ Byts.nil)))
theorem sumB_inj (s t : Int) (hs : 0 ≤ s ∧ s < 4294967296) (ht : 0 ≤ t ∧ t < 4294967296) (h : sumB s = sumB t) : s = t := by
  unfold sumB shr at h
  injection h with h0 h
  injection h with h1 h
  injection h with h2 h
  injection h with h3 _
  have e0 : (2 : Int) ^ min (24 : Int).toNat IntKind.u32.bits = 16777216 := by decide
  have e1 : (2 : Int) ^ min (16 : Int).toNat IntKind.u32.bits = 65536 := by decide
  have e2 : (2 : Int) ^ min (8 : Int).toNat IntKind.u32.bits = 256 := by decide
  have e3 : (2 : Int) ^ min (0 : Int).toNat IntKind.u32.bits = 1 := by decide
  rw [e0] at h0
  rw [e1] at h1
  rw [e2] at h2
  rw [e3] at h3
  omega

/-- What stands ahead of the sum; a record. -/
def frB (p : List Int) : List Int := encN p.length ++ p
def frE (p : List Int) : List Int := frB p ++ sumB (crcAdd 0 (frB p))
theorem numOf_nat' (n : Nat) (h : n ≤ 9007199254740991) : numOf (n : Int) = (encN n, 0) := by
  unfold numOf
  rw [if_neg (by omega), Int.toNat_natCast]
theorem frame_f (k : Nat) (p : List Int) (hk : 100 < k) (hl : p.length ≤ 65536) : frame_Frame.f k p = some (frE p, 0) := by
  have he := encN_len p.length (by omega)
  unfold frame_Frame.f
  rw [if_neg (by omega), num_f k _ (by omega), numOf_nat' p.length (by omega), Option.bind_some]
  dsimp only
  rw [if_pos rfl]
  have hc : slices_Concat_byte_byte.f [encN p.length, p] = some (frB p) := by
    unfold slices_Concat_byte_byte.f
    have h1 : sumLen [encN p.length, p] = (encN p.length).length + (p.length + 0) := rfl
    rw [if_pos (by rw [h1]; omega)]
    have h2 : [encN p.length, p].flatten = encN p.length ++ (p ++ []) := rfl
    rw [h2, List.append_nil]
    rfl
  rw [hc, Option.bind_some, sum_f k _ (by omega), Option.bind_some, if_pos (by rw [sumB_len]; unfold frB; rw [List.length_append]; omega)]
  rfl
theorem frame_long (k : Nat) (p : List Int) (hl : 65536 < p.length) : frame_Frame.f k p = some ([], 5) := by
  unfold frame_Frame.f
  rw [if_pos (by omega)]
theorem eqS_l0 (l m : List Int) (hl : l.length = m.length) (hm : l.length ≤ 9223372036854775807) : ∀ (d k i : Nat), i + d = l.length → d < k →
    slices_Equal_byte_byte.l0 k l m (l.length : Int) (i : Int) = some (decide (l.drop i = m.drop i)) := by
  intro d
  induction d with
  | zero =>
    intro k i h1 hk
    obtain ⟨k, rfl⟩ : ∃ j, k = j + 1 := ⟨k - 1, by omega⟩
    simp only [slices_Equal_byte_byte.l0]
    rw [if_neg (by omega), List.drop_of_length_le (by omega), List.drop_of_length_le (by omega)]
    simp
  | succ d ih =>
    intro k i h1 hk
    obtain ⟨k, rfl⟩ : ∃ j, k = j + 1 := ⟨k - 1, by omega⟩
    have hil : i < l.length := by omega
    have him : i < m.length := by omega
    simp only [slices_Equal_byte_byte.l0]
    rw [if_pos (by omega), if_pos (by omega), if_pos (by omega), if_pos (by omega), rd_get l i hil, rd_get m i him, wrap64_id _ (by omega) (by omega)]
    have e : ((i : Int) + 1) = ((i + 1 : Nat) : Int) := by omega
    rw [e, ih k (i + 1) (by omega) (by omega)]
    have e1 := List.drop_eq_getElem_cons hil
    have e2 := List.drop_eq_getElem_cons him
    rw [e1, e2]
    by_cases hx : l[i] = m[i]
    · rw [if_pos hx, hx]
      congr 1
      apply decide_eq_decide.2
      constructor
      · intro h; rw [h]
      · intro h; exact (List.cons.inj h).2
    · rw [if_neg hx]
      have : ¬ (l[i] :: l.drop (i + 1) = m[i] :: m.drop (i + 1)) := fun h => hx (List.cons.inj h).1
      rw [decide_eq_false this]
theorem eqS (k : Nat) (l m : List Int) (hm : l.length ≤ 9223372036854775807) (hk : l.length < k) : slices_Equal_byte_byte.f k l m = some (decide (l = m)) := by
  unfold slices_Equal_byte_byte.f
  by_cases hl : l.length = m.length
  · rw [if_pos (by omega)]
    have := eqS_l0 l m hl hm l.length k 0 (by omega) hk
    simpa using this
  · rw [if_neg (by omega)]
    have : ¬ l = m := fun e => hl (by rw [e])
    simp [this]
theorem takeNum_f' (l : List Int) (h : Byts l) (hl : l.length < 140737488355328) : quill_TakeNum.f l = some (qTake l) := if_pos ⟨(isByts_iff l).2 h, hl⟩
/-- What next tells of bytes that begin with a number. -/
def nextOf (n : Nat) (rest : List Int) : Int × Int × Int :=
  if 65536 < n then (0, 0, 5) else if rest.length < n + 4 then (0, 0, 3)
  else if (rest.drop n).take 4 = sumB (crcAdd 0 (encN n ++ rest.take n)) then (((encN n).length : Int), (((encN n).length + n : Nat) : Int), 0) else (0, 0, 40)
theorem next_f (k : Nat) (n : Nat) (rest : List Int) (hk : 100 < k) (hn : n ≤ 9007199254740991) (hb : Byts (encN n ++ rest)) (hl : (encN n ++ rest).length < 140737488355328) :
    frame_next.f k (encN n ++ rest) = some (nextOf n rest) := by
  have he := encN_len n hn
  rw [List.length_append] at hl
  unfold frame_next.f nextOf
  rw [takeNum_f' _ hb (by rw [List.length_append]; exact hl), qTake_encN n hn rest, Option.bind_some]
  dsimp only
  rw [if_pos rfl]
  by_cases c1 : 65536 < n
  · rw [if_pos (by omega), if_pos c1]
  rw [if_neg (by omega), if_neg c1, wrap64_id _ (by omega) (by omega)]
  by_cases c2 : rest.length < n + 4
  · rw [if_pos (by omega), if_pos c2]
  rw [if_neg (by omega), if_neg c2]
  have w1 : wrap64 (((encN n ++ rest).length : Int) - (rest.length : Int)) = ((encN n).length : Int) := by
    rw [List.length_append, wrap64_id _ (by omega) (by omega)]
    omega
  have w2 : wrap64 (((encN n).length : Int) + (n : Int)) = (((encN n).length + n : Nat) : Int) := by rw [wrap64_id _ (by omega) (by omega)]; omega
  have w3 : wrap64 ((((encN n).length + n : Nat) : Int) + 4) = (((encN n).length + n + 4 : Nat) : Int) := by rw [wrap64_id _ (by omega) (by omega)]; omega
  rw [w1, w2, w3, if_pos (by omega), if_pos (by omega), if_pos (by rw [List.length_append]; omega), if_pos (by rw [List.length_append]; omega), sum_f k _ (by omega), Option.bind_some, Int.toNat_natCast, Int.toNat_natCast]
  have t1 : (encN n ++ rest).take ((encN n).length + n) = encN n ++ rest.take n := by rw [List.take_append, List.take_of_length_le (by omega), Nat.add_sub_cancel_left]
  have t2 : ((encN n ++ rest).take ((encN n).length + n + 4)).drop ((encN n).length + n) = (rest.drop n).take 4 := by
    rw [Nat.add_assoc, List.take_append, List.take_of_length_le (by omega), Nat.add_sub_cancel_left, ← List.drop_drop, List.drop_left, List.drop_take, Nat.add_sub_cancel_left]
  rw [t1, t2, eqS k _ _ (by rw [List.length_take, List.length_drop]; omega) (by rw [List.length_take, List.length_drop]; omega), Option.bind_some]
  by_cases c3 : (rest.drop n).take 4 = sumB (crcAdd 0 (encN n ++ rest.take n))
  · rw [if_pos (decide_eq_true c3), if_pos c3]
  · rw [decide_eq_false c3, if_neg (by simp), if_neg c3]
theorem next_err (k : Nat) (l : List Int) (hb : Byts l) (hl : l.length < 140737488355328) (h : (qTake l).2.2 ≠ 0) : frame_next.f k l = some (0, 0, (qTake l).2.2) := by
  unfold frame_next.f
  rw [takeNum_f' _ hb hl, Option.bind_some, if_neg h]
/-- What Next tells. -/
theorem Next_no (k : Nat) (l : List Int) (e : Int) (h : frame_next.f k l = some (0, 0, e)) (he : e ≠ 0) : frame_Next.f k l = some ([], 0, e) := by
  unfold frame_Next.f
  rw [h, Option.bind_some]
  dsimp only
  rw [if_neg he]
/-- Next tells just of what is a record, and what comes behind it. -/
theorem Next_cases (k : Nat) (l : List Int) (hk : 100 < k) (hb : Byts l) (hl : l.length < 140737488355328) :
    (∃ e, (e = 3 ∨ e = 4 ∨ e = 5 ∨ e = 40) ∧ frame_Next.f k l = some ([], 0, e)) ∨
    (∃ p r, p.length ≤ 65536 ∧ l = frE p ++ r ∧ frame_Next.f k l = some (p, ((frE p).length : Int), 0)) := by
  by_cases h0 : (qTake l).2.2 = 0
  · obtain ⟨n, hn, _, h2⟩ := qTake_ok l hb h0
    generalize (qTake l).2.1 = rest at h2
    subst h2
    have he := encN_len n hn
    have hf := next_f k n rest hk hn hb hl
    unfold nextOf at hf
    rw [List.length_append] at hl
    by_cases c1 : 65536 < n
    · rw [if_pos c1] at hf
      exact .inl ⟨5, by omega, Next_no k _ 5 hf (by decide)⟩
    rw [if_neg c1] at hf
    by_cases c2 : rest.length < n + 4
    · rw [if_pos c2] at hf
      exact .inl ⟨3, by omega, Next_no k _ 3 hf (by decide)⟩
    rw [if_neg c2] at hf
    by_cases c3 : (rest.drop n).take 4 = sumB (crcAdd 0 (encN n ++ rest.take n))
    · rw [if_pos c3] at hf
      have hpl : (rest.take n).length = n := by rw [List.length_take]; omega
      have e1 : frE (rest.take n) = encN n ++ rest.take n ++ (rest.drop n).take 4 := by
        unfold frE frB
        rw [hpl, c3]
      refine .inr ⟨rest.take n, rest.drop (n + 4), by omega, ?_, ?_⟩
      · rw [e1, List.append_assoc, List.append_assoc, ← List.drop_drop, List.take_append_drop, List.take_append_drop]
      · unfold frame_Next.f
        rw [hf, Option.bind_some]
        dsimp only
        rw [if_pos rfl, if_pos (by omega), if_pos (by omega), if_pos (by rw [List.length_append]; omega), Int.toNat_natCast, Int.toNat_natCast]
        have t1 : ((encN n ++ rest).take ((encN n).length + n)).drop (encN n).length = rest.take n := by
          rw [List.take_append, List.take_of_length_le (by omega), Nat.add_sub_cancel_left, List.drop_left]
        have hc : slices_Clone_byte_byte.f (rest.take n) = some (rest.take n) := if_pos (by omega)
        rw [t1, hc, Option.bind_some, wrap64_id _ (by omega) (by omega)]
        have e2 : (frE (rest.take n)).length = (encN n).length + n + 4 := by
          rw [e1, List.length_append, List.length_append, hpl, List.length_take, List.length_drop]
          omega
        rw [e2]
        rfl
    · rw [if_neg c3] at hf
      exact .inl ⟨40, by omega, Next_no k _ 40 hf (by decide)⟩
  · have h1 := next_err k l hb hl h0
    obtain ⟨_, _, h3⟩ := qTake_err l h0
    exact .inl ⟨(qTake l).2.2, by omega, Next_no k _ _ h1 h0⟩
theorem crc_bd (l : List Int) : 0 ≤ crcAdd 0 l ∧ crcAdd 0 l < 4294967296 := crcAdd_bd 0 l
theorem frB_byts (p : List Int) (h : Byts p) (hl : p.length ≤ 65536) : Byts (frB p) := (encN_byts _ (by omega)).append h
theorem frE_byts (p : List Int) (h : Byts p) (hl : p.length ≤ 65536) : Byts (frE p) := (frB_byts p h hl).append (sumB_byts _)
theorem frE_len (p : List Int) : (frE p).length = (encN p.length).length + p.length + 4 := by
  unfold frE frB
  rw [List.length_append, List.length_append, sumB_len]
/-- A record, and what comes behind it: Next tells it. -/
theorem Next_yes (k : Nat) (p r : List Int) (hk : 100 < k) (hp : p.length ≤ 65536) (hb : Byts (frE p ++ r)) (hl : (frE p ++ r).length < 140737488355328) : frame_Next.f k (frE p ++ r) = some (p, ((frE p).length : Int), 0) := by
  have he := encN_len p.length (by omega)
  have hL := frE_len p
  have e1 : frE p ++ r = encN p.length ++ (p ++ (sumB (crcAdd 0 (frB p)) ++ r)) := by unfold frE frB; simp only [List.append_assoc]
  rw [List.length_append] at hl
  have hf := next_f k p.length (p ++ (sumB (crcAdd 0 (frB p)) ++ r)) hk (by omega) (by rw [← e1]; exact hb) (by rw [← e1, List.length_append]; exact hl)
  unfold nextOf at hf
  rw [if_neg (by omega), if_neg (by rw [List.length_append, List.length_append, sumB_len]; omega), List.drop_left, List.take_left] at hf
  have t4 : (sumB (crcAdd 0 (frB p)) ++ r).take 4 = sumB (crcAdd 0 (frB p)) := List.take_left' (sumB_len _)
  rw [t4, if_pos (show sumB (crcAdd 0 (frB p)) = sumB (crcAdd 0 (encN p.length ++ p)) from rfl), ← e1] at hf
  unfold frame_Next.f
  rw [hf, Option.bind_some]
  dsimp only
  rw [if_pos rfl, if_pos (by omega), if_pos (by omega), if_pos (by rw [List.length_append]; omega), Int.toNat_natCast, Int.toNat_natCast]
  have t1 : ((frE p ++ r).take ((encN p.length).length + p.length)).drop (encN p.length).length = p := by
    rw [e1, List.take_append, List.take_of_length_le (by omega), Nat.add_sub_cancel_left, List.drop_left, List.take_left]
  have hc : slices_Clone_byte_byte.f p = some p := if_pos (by omega)
  rw [t1, hc, Option.bind_some, wrap64_id _ (by omega) (by omega), hL]
  rfl

/-- Records, one behind the other. -/
def frs (ps : List (List Int)) : List Int := (ps.map frE).flatten
theorem frs_nil : frs [] = [] := rfl
theorem frs_cons (p : List Int) (ps : List (List Int)) : frs (p :: ps) = frE p ++ frs ps := rfl
theorem frs_append (ps qs : List (List Int)) : frs (ps ++ qs) = frs ps ++ frs qs := by unfold frs; rw [List.map_append, List.flatten_append]
theorem frs_byts : ∀ (ps : List (List Int)), (∀ p ∈ ps, Byts p ∧ p.length ≤ 65536) → Byts (frs ps)
  | [], _ => Byts.nil
  | p :: ps, h => by
    rw [frs_cons]
    exact (frE_byts p (h p (List.mem_cons_self ..)).1 (h p (List.mem_cons_self ..)).2).append (frs_byts ps (fun q hq => h q (List.mem_cons_of_mem _ hq)))
theorem Next_nil (k : Nat) : frame_Next.f k [] = some ([], 0, 3) := Next_no k [] 3 (next_err k [] Byts.nil (by decide) (by decide)) (by decide)
/-- A record that is cut. -/
theorem Next_trunc (k : Nat) (p : List Int) (j : Nat) (hk : 100 < k) (hp : p.length ≤ 65536) (hpb : Byts p) (hj : j < (frE p).length) : frame_Next.f k ((frE p).take j) = some ([], 0, 3) := by
  have he := encN_len p.length (by omega)
  have hL := frE_len p
  by_cases c0 : j = 0
  · subst c0
    exact Next_nil k
  · have hB : Byts ((frE p).take j) := (frE_byts p hpb hp).take j
    by_cases c1 : j < (encN p.length).length
    · have e1 : (frE p).take j = (encN p.length).take j := by
        unfold frE frB
        rw [List.append_assoc, List.take_append_of_le_length (by omega)]
      rw [e1] at hB ⊢
      refine Next_no k _ 3 ?_ (by decide)
      have hq : qTake ((encN p.length).take j) = (0, [], 3) := by
        obtain ⟨j, rfl⟩ : ∃ i, j = i + 1 := ⟨j - 1, by omega⟩
        have hl7 := enc_len p.length (by omega)
        have hle : (encN p.length).length = (enc p.length).length + 1 := by unfold encN; rw [List.length_cons]
        unfold encN
        rw [List.take_succ_cons, qTake_cons, if_neg (by omega), if_pos (by rw [List.length_take]; omega)]
      have hn := next_err k _ hB (by rw [List.length_take]; omega) (by rw [hq]; decide)
      rw [hq] at hn
      exact hn
    · have e1 : (frE p).take j = encN p.length ++ ((p ++ sumB (crcAdd 0 (frB p))).take (j - (encN p.length).length)) := by
        unfold frE frB
        rw [List.append_assoc, List.take_append, List.take_of_length_le (by omega)]
      rw [e1] at hB ⊢
      have hrl : ((p ++ sumB (crcAdd 0 (frB p))).take (j - (encN p.length).length)).length < p.length + 4 := by
        rw [List.length_take]
        omega
      have hf := next_f k p.length _ hk (by omega) hB (by rw [List.length_append]; omega)
      unfold nextOf at hf
      rw [if_neg (by omega), if_pos hrl] at hf
      exact Next_no k _ 3 hf (by decide)
/-- Records, and something behind them that is none: they are told. -/
theorem recs_frs (k : Nat) (hk : 100 < k) : ∀ (ps : List (List Int)) (tail : List Int) (m : Nat) (e : Int), (∀ p ∈ ps, Byts p ∧ p.length ≤ 65536) → Byts tail → (frs ps ++ tail).length < 140737488355328 → ps.length < m →
    frame_Next.f k tail = some ([], 0, e) → e ≠ 0 → recs k m (frs ps ++ tail) = some ps
  | [], tail, m, e, _, _, _, hm, hn, he => by
    obtain ⟨m, rfl⟩ : ∃ i, m = i + 1 := ⟨m - 1, by omega⟩
    unfold recs
    rw [frs_nil, List.nil_append, hn, Option.bind_some]
    dsimp only
    rw [if_neg he]
  | p :: ps, tail, m, e, hps, htb, hlen, hm, hn, he => by
    obtain ⟨m, rfl⟩ : ∃ i, m = i + 1 := ⟨m - 1, by omega⟩
    have hp := hps p (List.mem_cons_self ..)
    have hps' : ∀ q ∈ ps, Byts q ∧ q.length ≤ 65536 := fun q hq => hps q (List.mem_cons_of_mem _ hq)
    have hL := frE_len p
    have he1 := encN_len p.length (by omega)
    rw [frs_cons, List.append_assoc] at hlen ⊢
    have hB : Byts (frE p ++ (frs ps ++ tail)) := (frE_byts p hp.1 hp.2).append ((frs_byts ps hps').append htb)
    unfold recs
    rw [Next_yes k p (frs ps ++ tail) hk hp.2 hB hlen, Option.bind_some]
    dsimp only
    rw [List.length_append] at hlen
    rw [if_pos rfl, if_pos (by rw [List.length_append]; omega), Int.toNat_natCast, List.drop_left, recs_frs k hk ps tail m e hps' htb (by omega) (by simpa using hm) hn he, Option.bind_some]

theorem all_frs (k : Nat) (ps : List (List Int)) (tail : List Int) (e : Int) (hk : 100 + ps.length < k) (hps : ∀ p ∈ ps, Byts p ∧ p.length ≤ 65536) (htb : Byts tail) (hlen : (frs ps ++ tail).length < 140737488355328) (hn : frame_Next.f k tail = some ([], 0, e)) (he : e ≠ 0)
    (hl : ps.length < 5000000000000) : scriptoriumlaw04_all.f k (frs ps ++ tail) = some ps := by
  unfold scriptoriumlaw04_all.f
  rw [recs_frs k (by omega) ps tail k e hps htb hlen (by omega) hn he, Option.bind_some, if_pos hl]

theorem works_f (k : Nat) (hk : 120 ≤ k) : scriptoriumlaw04_works.f k = some true := more_rounds scriptoriumlaw04_works.mono hk (by kernel_rfl)

theorem FrameKnown : scriptoriumlaw04_FrameKnown.Pure := by
  obtain ⟨K, hK⟩ : ∃ K, K = 100000 := ⟨_, rfl⟩
  refine ⟨K, ?_⟩
  obtain ⟨big, hbig⟩ : ∃ big, big = List.replicate 65536 (0 : Int) := ⟨_, rfl⟩
  have hl : big.length = 65536 := by rw [hbig, List.length_replicate]
  have hb : Byts big := by
    rw [hbig]
    intro x hx
    rw [List.eq_of_mem_replicate hx]
    exact ⟨by decide, by decide⟩
  have he : (encN 65536).length = 4 := by decide +kernel
  have hE : (frE big).length = 65544 := by rw [frE_len, hl, he]
  have hEb := frE_byts big hb (by omega)
  have hE0 : frE [] = [0, 0, 0, 0, 0] ∨ True := .inr trivial
  have hn0 : (frE ([] : List Int)).length = 5 := by rw [frE_len]; decide +kernel
  have hnb := frE_byts [] Byts.nil (by decide)
  have hk : 100 < K := by rw [hK]; decide
  have f1 : frame_Frame.f K big = some (frE big, 0) := frame_f K big hk (by omega)
  have f2 : frame_Frame.f K (big ++ [0]) = some ([], 5) := frame_long K _ (by rw [List.length_append, hl]; decide)
  have f3 : frame_Next.f K (frE big) = some (big, ((frE big).length : Int), 0) := by
    have h := Next_yes K big [] hk (by omega) (by rw [List.append_nil]; exact hEb) (by rw [List.append_nil]; omega)
    rw [List.append_nil] at h
    exact h
  have f4 : frame_Next.f K ((frE big).take 65543) = some ([], 0, 3) := Next_trunc K big 65543 hk (by omega) hb (by omega)
  have hq5 : qTake [3, 1, 0, 1, 0, 0, 0, 0] = (65537, [0, 0, 0, 0], 0) := by decide +kernel
  have f5 : frame_Next.f K [3, 1, 0, 1, 0, 0, 0, 0] = some ([], 0, 5) := by
    have e : ([3, 1, 0, 1, 0, 0, 0, 0] : List Int) = encN 65537 ++ [0, 0, 0, 0] := by decide +kernel
    have hB : Byts [3, 1, 0, 1, 0, 0, 0, 0] := (isByts_iff _).1 (by decide +kernel)
    rw [e] at hB ⊢
    exact Next_no K _ 5 (next_f K 65537 [0, 0, 0, 0] hk (by decide) hB (by rw [← e]; decide)) (by decide)
  have f6 : frame_Next.f K [] = some ([], 0, 3) := Next_nil K
  have f7 : frame_Next.f K [1, 0, 0, 0, 0, 0] = some ([], 0, 4) := by
    have hB : Byts [1, 0, 0, 0, 0, 0] := (isByts_iff _).1 (by decide +kernel)
    have hq : qTake [1, 0, 0, 0, 0, 0] = (0, [], 4) := by decide +kernel
    have h := next_err K _ hB (by decide) (by rw [hq]; decide)
    rw [hq] at h
    exact Next_no K _ 4 h (by decide)
  have f8 : frame_Frame.f K [] = some (frE [], 0) := frame_f K [] hk (by decide)
  have f9 : frame_Next.f K (frE []) = some ([], ((frE ([] : List Int)).length : Int), 0) := by
    have h := Next_yes K [] [] hk (by decide) (by rw [List.append_nil]; exact hnb) (by rw [List.append_nil, hn0]; decide)
    rw [List.append_nil] at h
    exact h
  have hok : ∀ p ∈ ([[], []] : List (List Int)), Byts p ∧ p.length ≤ 65536 := by
    intro p hp
    simp at hp
    subst hp
    exact ⟨Byts.nil, by decide⟩
  have fz : frame_Next.f K [0, 0] = some ([], 0, 3) := by
    have hB : Byts [0, 0] := (isByts_iff _).1 (by decide +kernel)
    have e : ([0, 0] : List Int) = encN 0 ++ [0] := by decide +kernel
    rw [e] at hB ⊢
    exact Next_no K _ 3 (next_f K 0 [0] hk (by decide) hB (by rw [← e]; decide)) (by decide)
  have e2 : frE [] ++ frE [] ++ [0, 0] = frs [[], []] ++ [0, 0] := by
    rw [frs_cons, frs_cons, frs_nil, List.append_nil]
  have a1 : scriptoriumlaw04_all.f K (frE [] ++ frE [] ++ [0, 0]) = some [[], []] := by
    have hlen : (frs [[], []] ++ [0, 0]).length < 140737488355328 := by
      rw [← e2, List.length_append, List.length_append, hn0]
      decide
    rw [e2]
    exact all_frs K [[], []] [0, 0] 3 (by rw [hK]; decide) hok ((isByts_iff _).1 (by decide +kernel)) hlen fz (by decide) (by decide)
  have a2 : scriptoriumlaw04_all.f K [] = some [] := by
    have h := all_frs K [] [] 3 (by rw [hK]; decide) (fun p hp => by cases hp) Byts.nil (by decide) f6 (by decide) (by decide)
    exact h
  have c1 : scriptoriumref00_CopyBytes.f (frE []) = some (frE []) := copyB _ (by rw [hn0]; decide)
  have b1 : scriptoriumref00_EqBytes.f K big big = some true := by
    rw [eqB K big big (by omega) (by rw [hl, hK]; decide)]
    simp
  have w1 : wrap64 (((frE big).length : Int) - 1) = 65543 := by rw [hE, wrap64_id _ (by decide) (by decide)]; decide
  unfold scriptoriumlaw04_FrameKnown.f
  rw [← hbig, if_pos (by decide), Option.bind_some, f1, Option.bind_some]
  dsimp only
  rw [if_pos (by omega), f2, Option.bind_some, if_neg (by omega), f3, Option.bind_some, w1, if_pos (by decide), if_pos (by omega)]
  have t1 : (65543 : Int).toNat = 65543 := by decide
  rw [t1, f4, Option.bind_some, f5, Option.bind_some, f6, Option.bind_some, f7, Option.bind_some, f8, Option.bind_some]
  dsimp only
  rw [f9, Option.bind_some, c1, Option.bind_some, if_pos (by rw [hn0]; decide), Option.bind_some, Option.bind_some, if_pos (by rw [List.length_append, hn0]; decide), works_f K (by rw [hK]; decide), Option.bind_some, if_pos rfl, if_pos rfl, if_pos (by rw [hE]; rfl), if_pos rfl]
  dsimp only
  rw [if_pos rfl, if_pos rfl, b1, Option.bind_some, if_pos rfl, if_pos rfl, if_pos rfl, if_pos rfl, if_pos rfl, if_pos rfl, if_pos (by rw [hn0]; rfl), if_pos rfl, if_pos (by rw [hn0]; rfl), if_pos (show ((([] : List Int).length : Nat) : Int) = 0 from rfl), a1, Option.bind_some, if_pos (show ((([[], []] : List (List Int)).length : Nat) : Int) = 2 from rfl), a2]
  rfl

end Go.Proofs.Ytkboplflbokofaa.Pure
