/- Numbers stand as their bytes do: the law QuillOrder, its pure statement. -/
import Derived.Test.YtclbcmblgbinpaaPQuillOrderx
import Derived.Test.YtclbcmblgbinpaaQuillEnc
set_option linter.unusedVariables false
set_option linter.unusedSimpArgs false
namespace Go.Proofs.Ytclbcmblgbinpaa.Pure
open Go.RowKit Go.Proofs.Ytclbcmblgbinpaa.PQuillOrder Go.Proofs.YtclbcmblgbinpaaW.PrintWords Go.Proofs.YtclbcmblgbinpaaW.PrintLast Go.Proofs.YtclbcmblgbinpaaW.PrintMore
theorem rd_get (l : List Int) (i : Nat) (h : i < l.length) : rd l (i : Int) = l[i] := by
  simp [rd, List.getD_eq_getElem?_getD, List.getElem?_eq_getElem h]

theorem rev_loop (l : List Int) (hn : l.length ≤ 4611686018427387904) : ∀ (d k i : Nat) (cur : List Int), i + d = l.length / 2 → d < k → cur.length = l.length →
    (∀ p, p < l.length → cur[p]? = if p < i ∨ l.length - 1 - p < i then l[l.length - 1 - p]? else l[p]?) →
    slices_Reverse_byte_byte.l0 k cur (i : Int) ((l.length : Int) - 1 - (i : Int)) = some l.reverse := by
  intro d
  induction d with
  | zero =>
    intro k i cur h1 hk hl hc
    obtain ⟨k, rfl⟩ : ∃ j, k = j + 1 := ⟨k - 1, by omega⟩
    simp only [slices_Reverse_byte_byte.l0]
    rw [if_neg (by omega)]
    congr 1
    apply List.ext_getElem?
    intro p
    by_cases hp : p < l.length
    · rw [hc p hp, List.getElem?_reverse hp]
      by_cases h2 : p < i ∨ l.length - 1 - p < i
      · rw [if_pos h2]
      · rw [if_neg h2]
        congr 1
        omega
    · rw [List.getElem?_eq_none (by omega), List.getElem?_eq_none (by rw [List.length_reverse]; omega)]
  | succ d ih =>
    intro k i cur h1 hk hl hc
    obtain ⟨k, rfl⟩ : ∃ j, k = j + 1 := ⟨k - 1, by omega⟩
    obtain ⟨j, hj⟩ : ∃ j : Nat, (l.length : Int) - 1 - (i : Int) = (j : Int) := ⟨l.length - 1 - i, by omega⟩
    have hij : i < j := by omega
    have hjl : j < l.length := by omega
    have w1 : RowKit.wrap64 ((i : Int) + 1) = ((i + 1 : Nat) : Int) := by unfold RowKit.wrap64; omega
    have w2 : RowKit.wrap64 ((j : Int) - 1) = (l.length : Int) - 1 - ((i + 1 : Nat) : Int) := by unfold RowKit.wrap64; omega
    simp only [slices_Reverse_byte_byte.l0]
    rw [hj, if_pos (by omega), if_pos (by omega), if_pos (by omega), if_pos (by omega), if_pos (by omega), w1, w2, Int.toNat_natCast, Int.toNat_natCast, rd_get cur j (by omega), rd_get cur i (by omega)]
    have hci := hc i (by omega)
    have hcj := hc j hjl
    rw [if_neg (by omega), List.getElem?_eq_getElem (by omega), List.getElem?_eq_getElem (by omega)] at hci hcj
    have hci' := Option.some.inj hci
    have hcj' := Option.some.inj hcj
    refine ih k (i + 1) _ (by omega) (by omega) (by rw [List.length_set, List.length_set]; exact hl) ?_
    intro p hp
    rw [List.getElem?_set, List.getElem?_set, List.length_set]
    by_cases e1 : j = p
    · subst e1
      rw [if_pos rfl, if_pos (by omega), if_pos (by omega), hci', ← List.getElem?_eq_getElem]
      congr 1
      omega
    · rw [if_neg e1]
      by_cases e2 : i = p
      · subst e2
        rw [if_pos rfl, if_pos (by omega), if_pos (by omega), hcj', ← List.getElem?_eq_getElem]
        congr 1
        omega
      · rw [if_neg e2, hc p hp]
        by_cases h2 : p < i ∨ l.length - 1 - p < i
        · rw [if_pos h2, if_pos (by omega)]
        · rw [if_neg h2, if_neg (by omega)]
theorem rev_f (k : Nat) (l : List Int) (hn : l.length ≤ 4611686018427387904) (hk : l.length / 2 < k) : slices_Reverse_byte_byte.f k l = some l.reverse := by
  unfold slices_Reverse_byte_byte.f
  have w : RowKit.wrap64 ((l.length : Int) - 1) = (l.length : Int) - 1 - ((0 : Nat) : Int) := by unfold RowKit.wrap64; omega
  rw [w]
  have h := rev_loop l hn (l.length / 2) k 0 l (by omega) hk rfl (fun p hp => by rw [if_neg (by omega)])
  rw [show ((0 : Nat) : Int) = 0 from rfl] at h ⊢
  exact h

/-- What Num answers. -/
def numOf (n : Int) : List Int × Int := if n < 0 ∨ 9007199254740991 < n then ([], 2) else (encN n.toNat, 0)
theorem leD_stable (f : Nat) : ∀ n j, n < 256 ^ j → j ≤ f → leD f n = leD j n := by
  induction f with
  | zero => intro n j _ h2; obtain rfl : j = 0 := by omega
            rfl
  | succ f ih =>
    intro n j h hj
    cases j with
    | zero => simp at h; subst h; rw [leD_zero, leD_zero]
    | succ j =>
      unfold leD
      by_cases h0 : n = 0
      · rw [if_pos h0, if_pos h0]
      · rw [if_neg h0, if_neg h0, ih (n / 256) j (by rw [Nat.pow_succ] at h; omega) (by omega)]
theorem num_l0 : ∀ (d k n : Nat) (acc : List Int), n < 256 ^ d → acc.length + d ≤ 100 → d + 60 < k →
    quill_Num.l0 k (n : Int) acc = some ((((acc ++ leD d n).length : Int)) % 256 :: (acc ++ leD d n).reverse, 0) := by
  intro d
  induction d with
  | zero =>
    intro k n acc h hl hk
    obtain ⟨k, rfl⟩ : ∃ j, k = j + 1 := ⟨k - 1, by omega⟩
    simp at h
    subst h
    simp only [quill_Num.l0]
    rw [if_neg (by omega), rev_f k acc (by omega) (by omega)]
    simp only [Option.bind_some]
    rw [if_pos (by simp; omega), leD_zero, List.append_nil]
    rfl
  | succ d ih =>
    intro k n acc h hl hk
    obtain ⟨k, rfl⟩ : ∃ j, k = j + 1 := ⟨k - 1, by omega⟩
    simp only [quill_Num.l0]
    by_cases h0 : n = 0
    · subst h0
      rw [if_neg (by omega), rev_f k acc (by omega) (by omega)]
      simp only [Option.bind_some]
      rw [if_pos (by simp; omega), leD_zero, List.append_nil]
      rfl
    · have h2 : n / 256 < 256 ^ d := by rw [Nat.pow_succ] at h; omega
      rw [if_pos (by omega), if_pos (by omega)]
      have e1 : ((n : Int) / 256) = ((n / 256 : Nat) : Int) := by omega
      have e2 : ((n : Int) % 256) = ((n % 256 : Nat) : Int) := by omega
      rw [e1, e2, ih k (n / 256) _ h2 (by rw [List.length_append]; simp; omega) (by omega)]
      have e3 : leD (d + 1) n = ((n % 256 : Nat) : Int) :: leD d (n / 256) := by
        show (if n = 0 then _ else _) = _
        rw [if_neg h0]
      rw [e3, List.append_assoc]
      rfl
theorem num_f (k : Nat) (n : Int) (hk : 80 < k) : quill_Num.f k n = some (numOf n) := by
  obtain ⟨k, rfl⟩ : ∃ j, k = j + 1 := ⟨k - 1, by omega⟩
  unfold quill_Num.f
  simp only [quill_Num.j0]
  by_cases h1 : n < 0
  · have e : numOf n = ([], 2) := if_pos (.inl h1)
    rw [if_pos h1, if_pos trivial, e]
  · rw [if_neg h1]
    by_cases h2 : 9007199254740991 < n
    · have e : numOf n = ([], 2) := if_pos (.inr h2)
      rw [if_pos (decide_eq_true h2), e]
    · have hd : decide (n > 9007199254740991) = false := decide_eq_false h2
      have e : numOf n = (encN n.toNat, 0) := if_neg (by omega)
      rw [hd, if_neg (by simp), e]
      obtain ⟨m, rfl⟩ := Int.eq_ofNat_of_zero_le (show 0 ≤ n by omega)
      rw [num_l0 8 k m [] (lt_pow8 m (by omega)) (by simp) (by omega)]
      have hl := enc_len m (by omega)
      unfold encN enc
      unfold enc at hl
      rw [List.length_reverse] at hl ⊢
      rw [List.nil_append, Int.toNat_natCast]
      congr 3
      omega

/-- What Str answers. -/
def strOf (s : ByteArray) (most : Int) : List Int × Int := if most < 0 then ([], 2) else if most < (s.size : Int) then ([], 5) else (encN s.size ++ bytesOf s, 0)
theorem str_f (k : Nat) (s : ByteArray) (most : Int) (hs : s.size ≤ 140737488351232) (hk : 80 < k) : quill_Str.f k s most = some (strOf s most) := by
  unfold quill_Str.f strOf
  by_cases h1 : most < 0
  · rw [if_pos h1, if_pos h1]
  · rw [if_neg h1, if_neg h1]
    by_cases h2 : most < (s.size : Int)
    · rw [if_pos h2, if_pos h2]
    · rw [if_neg h2, if_neg h2, num_f k _ hk]
      have e : numOf (s.size : Int) = (encN s.size, 0) := by
        unfold numOf
        rw [if_neg (by omega), Int.toNat_natCast]
      have hl := encN_len s.size (by omega)
      rw [e]
      simp only [Option.bind_some, if_true]
      rw [if_pos (by omega)]

theorem wf_byts {l : List Int} (h : ∀ x ∈ l, (Lit.int .u8 x).wf = true) : Byts l := by
  intro x hx
  have := h x hx
  simp only [Lit.wf, Bool.and_eq_true, decide_eq_true_eq] at this
  have hmin : IntKind.u8.min = 0 := rfl
  have hmax : IntKind.u8.max = 255 := rfl
  omega
theorem takeNum_f (l : List Int) (h : Byts l) (hl : l.length < 140737488355328) : quill_TakeNum.f l = some (qTake l) := if_pos ⟨(isByts_iff l).2 h, hl⟩
theorem takeStr_f (l : List Int) (m : Int) (h : Byts l) (hl : l.length < 140737488355328) : quill_TakeStr.f l m = some (qTakeStr l m) := if_pos ⟨(isByts_iff l).2 h, hl⟩

theorem strOfNums_size (l : List Int) : (strOfNums l).size = l.length := by
  show ((l.map fun n => UInt8.ofNat n.toNat).toArray).size = _
  simp
theorem bytesOf_strOfNums (l : List Int) (h : Byts l) : bytesOf (strOfNums l) = l := by
  show ((l.map fun n => UInt8.ofNat n.toNat).toArray.toList).map (fun b => (b.toNat : Int)) = l
  rw [List.map_map]
  apply List.ext_getElem
  · simp
  · intro i h1 h2
    have := h l[i] (List.getElem_mem h2)
    simp
    omega
theorem bytesOf_byts (s : ByteArray) : Byts (bytesOf s) := by
  intro x hx
  unfold bytesOf at hx
  obtain ⟨b, _, rfl⟩ := List.mem_map.1 hx
  have := b.toNat_lt
  omega
theorem bytesOf_len (s : ByteArray) : (bytesOf s).length = s.size := by simp [bytesOf]
theorem strOfNums_bytesOf (s : ByteArray) : strOfNums (bytesOf s) = s := by
  cases s with
  | mk d =>
    unfold strOfNums bytesOf
    congr 1
    apply Array.ext'
    rw [List.map_map]
    have e : ((fun n : Int => UInt8.ofNat n.toNat) ∘ fun b : UInt8 => (b.toNat : Int)) = id := by
      funext b
      show UInt8.ofNat (b.toNat : Int).toNat = b
      rw [Int.toNat_natCast, UInt8.ofNat_toNat]
    rw [e, List.map_id]
theorem qTakeStr_eq (l : List Int) (m n : Int) (rest : List Int) (er : Int) (hm : 0 ≤ m) (h : qTake l = (n, rest, er)) : qTakeStr l m = if er ≠ 0 then ((⟨#[]⟩ : ByteArray), [], er) else if m < n then ((⟨#[]⟩ : ByteArray), [], 5)
    else if (rest.length : Int) < n then ((⟨#[]⟩ : ByteArray), [], 3) else (strOfNums (rest.take n.toNat), rest.drop n.toNat, 0) := by
  unfold qTakeStr
  rw [h, if_neg (by omega)]
theorem numOf_nat (n : Nat) (h : n ≤ 9007199254740991) : numOf (n : Int) = (encN n, 0) := by
  unfold numOf
  rw [if_neg (by omega), Int.toNat_natCast]
theorem strOf_ok (s : ByteArray) (most : Int) (h : (s.size : Int) ≤ most) : strOf s most = (encN s.size ++ bytesOf s, 0) := by
  unfold strOf
  rw [if_neg (by omega), if_neg (by omega)]
/-- A text that was written is read. -/
theorem qTakeStr_ok (s : ByteArray) (rest : List Int) (most : Int) (h : (s.size : Int) ≤ most) (hs : s.size ≤ 9007199254740991) : qTakeStr (encN s.size ++ bytesOf s ++ rest) most = (s, rest, 0) := by
  unfold qTakeStr
  rw [List.append_assoc, qTake_encN s.size hs]
  have hl := bytesOf_len s
  rw [if_neg (by omega), if_neg (by simp), if_neg (by show ¬ most < (s.size : Int); omega), if_neg (by rw [List.length_append]; show ¬ ((_ : Nat) : Int) < (s.size : Int); omega)]
  show (strOfNums ((bytesOf s ++ rest).take (s.size : Int).toNat), (bytesOf s ++ rest).drop (s.size : Int).toNat, (0 : Int)) = _
  rw [Int.toNat_natCast, ← hl, List.take_left, List.drop_left, strOfNums_bytesOf]

theorem bring_some (a n : Int) (h : 0 < n) (hn : n ≤ 4611686018427387904) : ∃ r, scriptoriumref00_Bring.f a n = some r ∧ 0 ≤ r ∧ r < n := by
  unfold scriptoriumref00_Bring.f
  have h1 := Int.tmod_lt_of_pos a h
  have h2 : -n < Int.tmod a n := by
    have := Int.lt_tmod_of_pos a h
    omega
  rw [if_neg (by omega), if_neg (by omega)]
  by_cases h3 : Int.tmod a n < 0
  · rw [if_pos h3]
    refine ⟨_, rfl, ?_⟩
    have : RowKit.wrap64 (Int.tmod a n + n) = Int.tmod a n + n := by unfold RowKit.wrap64; omega
    rw [this]
    omega
  · rw [if_neg h3]
    exact ⟨_, rfl, by omega, by omega⟩

theorem number_some (n : Int) : ∃ m : Nat, scriptoriumlaw01_number.f n = some (m : Int) ∧ m ≤ 9007199254740991 := by
  obtain ⟨r, h, h0, h1⟩ := bring_some n 9007199254740992 (by omega) (by omega)
  refine ⟨r.toNat, ?_, by omega⟩
  unfold scriptoriumlaw01_number.f
  rw [h, Int.toNat_of_nonneg h0]; rfl

theorem toList_loop (b : ByteArray) : ∀ (d i : Nat) (r : List UInt8), b.size - i = d → ByteArray.toList.loop b i r = r.reverse ++ b.data.toList.drop i := by
  intro d
  induction d with
  | zero =>
    intro i r h
    rw [ByteArray.toList.loop.eq_1, if_neg (by omega), List.drop_of_length_le (by show b.data.toList.length ≤ i; rw [Array.length_toList]; show b.size ≤ i; omega), List.append_nil]
  | succ d ih =>
    intro i r h
    have hi : i < b.data.toList.length := by rw [Array.length_toList]; show i < b.size; omega
    rw [ByteArray.toList.loop.eq_1, if_pos (by omega), ih (i + 1) _ (by omega), List.reverse_cons, List.append_assoc, List.drop_eq_getElem_cons hi]
    have h2 : i < b.data.size := by rw [Array.length_toList] at hi; exact hi
    have e : b.get! i = b.data.toList[i] := by
      unfold ByteArray.get!
      show b.data[i]! = _
      rw [getElem!_pos b.data i h2]
      rfl
    rw [e]
    rfl
theorem ba_toList (b : ByteArray) : b.toList = b.data.toList := by
  show ByteArray.toList.loop b 0 [] = _
  rw [toList_loop b _ 0 [] rfl]
  rfl
theorem ba_inj {a b : ByteArray} (h : a.toList = b.toList) : a = b := by
  rw [ba_toList, ba_toList] at h
  cases a; cases b
  congr 1
  exact Array.ext' h
theorem ba_eq (a b : ByteArray) : (a.toList == b.toList) = decide (a = b) := by
  by_cases h : a = b
  · subst h; simp
  · rw [decide_eq_false h, beq_eq_false_iff_ne]
    exact fun e => h (ba_inj e)
theorem strOfNums_inj {l m : List Int} (hl : Byts l) (hm : Byts m) (h : strOfNums l = strOfNums m) : l = m := by
  rw [← bytesOf_strOfNums l hl, h, bytesOf_strOfNums m hm]

theorem hasPrefix_f (l m : List Int) (hl : Byts l) (hm : Byts m) : bytes_HasPrefix.f l m = some (decide (m.length ≤ l.length ∧ l.take m.length = m)) := by
  unfold bytes_HasPrefix.f
  by_cases h : (l.length : Int) ≥ (m.length : Int)
  · rw [if_pos h, if_pos (by omega), if_pos h]
    unfold bytes_Equal.f
    rw [ba_eq, Int.toNat_natCast]
    simp only [Option.bind_some]
    congr 1
    by_cases h2 : l.take m.length = m
    · rw [h2, decide_eq_true rfl, decide_eq_true ⟨by omega, rfl⟩]
    · rw [decide_eq_false (fun e => h2 (strOfNums_inj (hl.take _) hm e)), decide_eq_false (fun e => h2 e.2)]
  · rw [if_neg h, decide_eq_false (fun e => h (by omega))]

theorem foldl_from (l : List Int) : ∀ n : Int, l.foldl (fun n c => n * 256 + c) n = n * 256 ^ l.length + qNum l := by
  induction l with
  | nil => intro n; simp [qNum]
  | cons c l ih =>
    intro n
    have e : qNum (c :: l) = (0 * 256 + c) * 256 ^ l.length + qNum l := by
      show (c :: l).foldl _ 0 = _
      rw [List.foldl_cons, ih]
    rw [List.foldl_cons, ih, e, List.length_cons, Int.pow_succ, Int.add_mul, Int.add_mul]
    have e2 : n * 256 * 256 ^ l.length = n * (256 ^ l.length * 256) := by rw [Int.mul_assoc, Int.mul_comm 256]
    rw [e2]
    omega
theorem qNum_cons (c : Int) (l : List Int) : qNum (c :: l) = c * 256 ^ l.length + qNum l := by
  show (c :: l).foldl _ 0 = _
  rw [List.foldl_cons, foldl_from]
  congr 2
  omega
theorem lt_u8 (x y : Int) (hx : 0 ≤ x ∧ x < 256) (hy : 0 ≤ y ∧ y < 256) : (UInt8.ofNat x.toNat < UInt8.ofNat y.toNat) ↔ x < y := by
  rw [UInt8.lt_iff_toNat_lt, UInt8.toNat_ofNat', UInt8.toNat_ofNat']
  omega
def cmpInt (a b : Int) : Int := if a < b then -1 else if a > b then 1 else 0
theorem cmp_cons (x y : Int) (s t : List Int) (hx : 0 ≤ x ∧ x < 256) (hy : 0 ≤ y ∧ y < 256) : Lib.compareBytes (Lib.bytesOf (x :: s)) (Lib.bytesOf (y :: t)) = if x < y then -1 else if y < x then 1 else Lib.compareBytes (Lib.bytesOf s) (Lib.bytesOf t) := by
  show (if UInt8.ofNat x.toNat < UInt8.ofNat y.toNat then (-1 : Int) else if UInt8.ofNat y.toNat < UInt8.ofNat x.toNat then 1 else Lib.compareBytes (Lib.bytesOf s) (Lib.bytesOf t)) = _
  simp only [lt_u8 x y hx hy, lt_u8 y x hy hx]
theorem cmp_same : ∀ (s t : List Int), s.length = t.length → Byts s → Byts t → Lib.compareBytes (Lib.bytesOf s) (Lib.bytesOf t) = cmpInt (qNum s) (qNum t)
  | [], [], _, _, _ => rfl
  | x :: s, y :: t, hl, hs, ht => by
    have hx := hs x (by simp)
    have hy := ht y (by simp)
    have hl2 : s.length = t.length := by simpa using hl
    rw [cmp_cons x y s t hx hy, cmp_same s t hl2 hs.tail ht.tail, qNum_cons, qNum_cons, hl2]
    obtain ⟨s0, s1⟩ := qNum_bd s hs.tail
    obtain ⟨t0, t1⟩ := qNum_bd t ht.tail
    rw [hl2] at s1
    generalize (256 : Int) ^ t.length = P at *
    by_cases h1 : x < y
    · rw [if_pos h1]
      have : (x + 1) * P ≤ y * P := Int.mul_le_mul_of_nonneg_right (by omega) (by omega)
      rw [Int.add_mul] at this
      unfold cmpInt
      rw [if_pos (by omega)]
    · rw [if_neg h1]
      by_cases h2 : y < x
      · rw [if_pos h2]
        have : (y + 1) * P ≤ x * P := Int.mul_le_mul_of_nonneg_right (by omega) (by omega)
        rw [Int.add_mul] at this
        unfold cmpInt
        rw [if_neg (by omega), if_pos (by omega)]
      · rw [if_neg h2]
        obtain rfl : x = y := by omega
        unfold cmpInt
        have e1 : (x * P + qNum s < x * P + qNum t) ↔ (qNum s < qNum t) := by omega
        have e2 : (x * P + qNum s > x * P + qNum t) ↔ (qNum s > qNum t) := by omega
        simp only [e1, e2]
theorem qNum_low (l : List Int) (h : Byts l) (hne : l ≠ []) (hh : l.head? ≠ some 0) : 256 ^ (l.length - 1) ≤ qNum l := by
  cases l with
  | nil => exact absurd rfl hne
  | cons c t =>
    have hc := h c (by simp)
    have hc1 : c ≠ 0 := fun e => hh (by rw [e]; rfl)
    obtain ⟨t0, _⟩ := qNum_bd t h.tail
    rw [qNum_cons, List.length_cons, Nat.add_sub_cancel]
    have : 1 * (256 : Int) ^ t.length ≤ c * 256 ^ t.length := Int.mul_le_mul_of_nonneg_right (by omega) (Int.pow_nonneg (by omega))
    omega
theorem enc_lt (n m : Nat) (hn : n ≤ 9007199254740991) (hm : m ≤ 9007199254740991) (h : (enc n).length < (enc m).length) : n < m := by
  have h1 := (qNum_bd (enc n) (enc_byts n)).2
  rw [enc_val n hn] at h1
  have hne : enc m ≠ [] := fun e => by rw [e] at h; simp at h
  have h2 := qNum_low (enc m) (enc_byts m) hne (enc_head m hm)
  rw [enc_val m hm] at h2
  have h3 : 256 ^ (enc n).length ≤ 256 ^ ((enc m).length - 1) := Nat.pow_le_pow_right (by decide) (by omega)
  have h4 : (256 : Int) ^ (enc n).length ≤ 256 ^ ((enc m).length - 1) := by
    have := Int.ofNat_le.2 h3
    rwa [Int.natCast_pow, Int.natCast_pow] at this
  omega
theorem cmp_encN (n m : Nat) (hn : n ≤ 9007199254740991) (hm : m ≤ 9007199254740991) : Lib.compareBytes (Lib.bytesOf (encN n)) (Lib.bytesOf (encN m)) = cmpInt n m := by
  have ln := enc_len n hn
  have lm := enc_len m hm
  unfold encN
  rw [cmp_cons _ _ _ _ (by omega) (by omega)]
  by_cases h1 : (enc n).length < (enc m).length
  · have := enc_lt n m hn hm h1
    rw [if_pos (by omega)]
    unfold cmpInt
    rw [if_pos (by omega)]
  · rw [if_neg (by omega)]
    by_cases h2 : (enc m).length < (enc n).length
    · have := enc_lt m n hm hn h2
      rw [if_pos (by omega)]
      unfold cmpInt
      rw [if_neg (by omega), if_pos (by omega)]
    · rw [if_neg (by omega), cmp_same _ _ (by omega) (enc_byts n) (enc_byts m), enc_val n hn, enc_val m hm]

theorem QuillOrder : scriptoriumlaw01_QuillOrder.Pure := by
  intro a b ha hb
  obtain ⟨K, hK⟩ : ∃ K, K = 200 := ⟨_, rfl⟩
  refine ⟨K, ?_⟩
  unfold scriptoriumlaw01_QuillOrder.f
  have e0 : scriptoriumlaw01_works.f = some true := rfl
  obtain ⟨n, hn, hn1⟩ := number_some a
  obtain ⟨m, hm, hm1⟩ := number_some b
  rw [e0, hn, hm]
  simp only [Option.bind_some, if_true]
  rw [num_f K _ (by omega), num_f K _ (by omega), numOf_nat n hn1, numOf_nat m hm1]
  simp only [Option.bind_some, if_true]
  unfold bytes_Compare.f
  rw [cmp_encN n m hn1 hm1]
  have ec : scriptoriumlaw01_compare.f (n : Int) (m : Int) = some (cmpInt n m) := by
    unfold scriptoriumlaw01_compare.f cmpInt
    split
    · rfl
    · split <;> rfl
  rw [ec]
  simp only [Option.bind_some, if_true]
  by_cases h : (n : Int) = (m : Int)
  · rw [if_pos h]
  · rw [if_neg h, hasPrefix_f _ _ (encN_byts n hn1) (encN_byts m hm1)]
    simp only [Option.bind_some]
    rw [decide_eq_false]
    · rfl
    · rintro ⟨_, h2⟩
      have q1 := qTake_encN n hn1 []
      have q2 := qTake_encN m hm1 ((encN n).drop (encN m).length)
      have e : encN m ++ (encN n).drop (encN m).length = encN n := by
        conv => lhs; lhs; rw [← h2]
        rw [List.take_append_drop]
      rw [e] at q2
      rw [List.append_nil, q2] at q1
      injection q1 with q1 _
      exact h q1.symm

end Go.Proofs.Ytclbcmblgbinpaa.Pure
