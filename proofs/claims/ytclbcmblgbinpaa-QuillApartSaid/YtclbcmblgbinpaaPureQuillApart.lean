/- No text's bytes are the beginning of another one's: the law QuillApart, its pure statement. -/
import Derived.Test.YtclbcmblgbinpaaPQuillApartx
import Derived.Test.YtclbcmblgbinpaaQuillEnc
set_option linter.unusedVariables false
set_option linter.unusedSimpArgs false
namespace Go.Proofs.Ytclbcmblgbinpaa.Pure
open Go.RowKit Go.Proofs.Ytclbcmblgbinpaa.PQuillApart Go.Proofs.YtclbcmblgbinpaaW.PrintWords Go.Proofs.YtclbcmblgbinpaaW.PrintLast Go.Proofs.YtclbcmblgbinpaaW.PrintMore
theorem rd_get (l : List Int) (i : Nat) (h : i < l.length) : rd l (i : Int) = l[i] := by
  simp [rd, List.getD_eq_getElem?_getD, List.getElem?_eq_getElem h]

theorem rev_loop (l : List Int) (hn : l.length ≤ 4611686018427387904) : ∀ (d k i : Nat) (cur : List Int), i + d = l.length / 2 → d < k → cur.length = l.length →
    (∀ p, p < l.length → cur[p]? = if p < i ∨ l.length - 1 - p < i then l[l.length - 1 - p]? else l[p]?) →
    slices_Reverse_byte_byte.l0 k cur (i : Int) ((l.length : Int) - 1 - (i : Int)) = some l.reverse := by
  intro d
  induction d with
  | zero =>
    intro k i cur h1 hk hl hc
    obtain ⟨k, rfl⟩ : ∃ j, k = j + 1 := ⟨k - 1, by omega⟩
    simp only [slices_Reverse_byte_byte.l0]
    rw [if_neg (by omega)]
    congr 1
    apply List.ext_getElem?
    intro p
    by_cases hp : p < l.length
    · rw [hc p hp, List.getElem?_reverse hp]
      by_cases h2 : p < i ∨ l.length - 1 - p < i
      · rw [if_pos h2]
      · rw [if_neg h2]
        congr 1
        omega
    · rw [List.getElem?_eq_none (by omega), List.getElem?_eq_none (by rw [List.length_reverse]; omega)]
  | succ d ih =>
    intro k i cur h1 hk hl hc
    obtain ⟨k, rfl⟩ : ∃ j, k = j + 1 := ⟨k - 1, by omega⟩
    obtain ⟨j, hj⟩ : ∃ j : Nat, (l.length : Int) - 1 - (i : Int) = (j : Int) := ⟨l.length - 1 - i, by omega⟩
    have hij : i < j := by omega
    have hjl : j < l.length := by omega
    have w1 : RowKit.wrap64 ((i : Int) + 1) = ((i + 1 : Nat) : Int) := by unfold RowKit.wrap64; omega
    have w2 : RowKit.wrap64 ((j : Int) - 1) = (l.length : Int) - 1 - ((i + 1 : Nat) : Int) := by unfold RowKit.wrap64; omega
    simp only [slices_Reverse_byte_byte.l0]
    rw [hj, if_pos (by omega), if_pos (by omega), if_pos (by omega), if_pos (by omega), if_pos (by omega), w1, w2, Int.toNat_natCast, Int.toNat_natCast, rd_get cur j (by omega), rd_get cur i (by omega)]
    have hci := hc i (by omega)
    have hcj := hc j hjl
    rw [if_neg (by omega), List.getElem?_eq_getElem (by omega), List.getElem?_eq_getElem (by omega)] at hci hcj
    have hci' := Option.some.inj hci
    have hcj' := Option.some.inj hcj
    refine ih k (i + 1) _ (by omega) (by omega) (by rw [List.length_set, List.length_set]; exact hl) ?_
    intro p hp
    rw [List.getElem?_set, List.getElem?_set, List.length_set]
    by_cases e1 : j = p
    · subst e1
      rw [if_pos rfl, if_pos (by omega), if_pos (by omega), hci', ← List.getElem?_eq_getElem]
      congr 1
      omega
    · rw [if_neg e1]
      by_cases e2 : i = p
      · subst e2
        rw [if_pos rfl, if_pos (by omega), if_pos (by omega), hcj', ← List.getElem?_eq_getElem]
        congr 1
        omega
      · rw [if_neg e2, hc p hp]
        by_cases h2 : p < i ∨ l.length - 1 - p < i
        · rw [if_pos h2, if_pos (by omega)]
        · rw [if_neg h2, if_neg (by omega)]
theorem rev_f (k : Nat) (l : List Int) (hn : l.length ≤ 4611686018427387904) (hk : l.length / 2 < k) : slices_Reverse_byte_byte.f k l = some l.reverse := by
  unfold slices_Reverse_byte_byte.f
  have w : RowKit.wrap64 ((l.length : Int) - 1) = (l.length : Int) - 1 - ((0 : Nat) : Int) := by unfold RowKit.wrap64; omega
  rw [w]
  have h := rev_loop l hn (l.length / 2) k 0 l (by omega) hk rfl (fun p hp => by rw [if_neg (by omega)])
  rw [show ((0 : Nat) : Int) = 0 from rfl] at h ⊢
  exact h

/-- What Num answers. -/
def numOf (n : Int) : List Int × Int := if n < 0 ∨ 9007199254740991 < n then ([], 2) else (encN n.toNat, 0)
theorem leD_stable (f : Nat) : ∀ n j, n < 256 ^ j → j ≤ f → leD f n = leD j n := by
  induction f with
  | zero => intro n j _ h2; obtain rfl : j = 0 := by omega
            rfl
  | succ f ih =>
    intro n j h hj
    cases j with
    | zero => simp at h; subst h; rw [leD_zero, leD_zero]
    | succ j =>
      unfold leD
      by_cases h0 : n = 0
      · rw [if_pos h0, if_pos h0]
      · rw [if_neg h0, if_neg h0, ih (n / 256) j (by rw [Nat.pow_succ] at h; omega) (by omega)]
theorem num_l0 : ∀ (d k n : Nat) (acc : List Int), n < 256 ^ d → acc.length + d ≤ 100 → d + 60 < k →
    quill_Num.l0 k (n : Int) acc = some ((((acc ++ leD d n).length : Int)) % 256 :: (acc ++ leD d n).reverse, 0) := by
  intro d
  induction d with
  | zero =>
    intro k n acc h hl hk
    obtain ⟨k, rfl⟩ : ∃ j, k = j + 1 := ⟨k - 1, by omega⟩
    simp at h
    subst h
    simp only [quill_Num.l0]
    rw [if_neg (by omega), rev_f k acc (by omega) (by omega)]
    simp only [Option.bind_some]
    rw [if_pos (by simp; omega), leD_zero, List.append_nil]
    rfl
  | succ d ih =>
    intro k n acc h hl hk
    obtain ⟨k, rfl⟩ : ∃ j, k = j + 1 := ⟨k - 1, by omega⟩
    simp only [quill_Num.l0]
    by_cases h0 : n = 0
    · subst h0
      rw [if_neg (by omega), rev_f k acc (by omega) (by omega)]
      simp only [Option.bind_some]
      rw [if_pos (by simp; omega), leD_zero, List.append_nil]
      rfl
    · have h2 : n / 256 < 256 ^ d := by rw [Nat.pow_succ] at h; omega
      rw [if_pos (by omega), if_pos (by omega)]
      have e1 : ((n : Int) / 256) = ((n / 256 : Nat) : Int) := by omega
      have e2 : ((n : Int) % 256) = ((n % 256 : Nat) : Int) := by omega
      rw [e1, e2, ih k (n / 256) _ h2 (by rw [List.length_append]; simp; omega) (by omega)]
      have e3 : leD (d + 1) n = ((n % 256 : Nat) : Int) :: leD d (n / 256) := by
        show (if n = 0 then _ else _) = _
        rw [if_neg h0]
      rw [e3, List.append_assoc]
      rfl
theorem num_f (k : Nat) (n : Int) (hk : 80 < k) : quill_Num.f k n = some (numOf n) := by
  obtain ⟨k, rfl⟩ : ∃ j, k = j + 1 := ⟨k - 1, by omega⟩
  unfold quill_Num.f
  simp only [quill_Num.j0]
  by_cases h1 : n < 0
  · have e : numOf n = ([], 2) := if_pos (.inl h1)
    rw [if_pos h1, if_pos trivial, e]
  · rw [if_neg h1]
    by_cases h2 : 9007199254740991 < n
    · have e : numOf n = ([], 2) := if_pos (.inr h2)
      rw [if_pos (decide_eq_true h2), e]
    · have hd : decide (n > 9007199254740991) = false := decide_eq_false h2
      have e : numOf n = (encN n.toNat, 0) := if_neg (by omega)
      rw [hd, if_neg (by simp), e]
      obtain ⟨m, rfl⟩ := Int.eq_ofNat_of_zero_le (show 0 ≤ n by omega)
      rw [num_l0 8 k m [] (lt_pow8 m (by omega)) (by simp) (by omega)]
      have hl := enc_len m (by omega)
      unfold encN enc
      unfold enc at hl
      rw [List.length_reverse] at hl ⊢
      rw [List.nil_append, Int.toNat_natCast]
      congr 3
      omega

/-- What Str answers. -/
def strOf (s : ByteArray) (most : Int) : List Int × Int := if most < 0 then ([], 2) else if most < (s.size : Int) then ([], 5) else (encN s.size ++ bytesOf s, 0)
theorem str_f (k : Nat) (s : ByteArray) (most : Int) (hs : s.size ≤ 140737488351232) (hk : 80 < k) : quill_Str.f k s most = some (strOf s most) := by
  unfold quill_Str.f strOf
  by_cases h1 : most < 0
  · rw [if_pos h1, if_pos h1]
  · rw [if_neg h1, if_neg h1]
    by_cases h2 : most < (s.size : Int)
    · rw [if_pos h2, if_pos h2]
    · rw [if_neg h2, if_neg h2, num_f k _ hk]
      have e : numOf (s.size : Int) = (encN s.size, 0) := by
        unfold numOf
        rw [if_neg (by omega), Int.toNat_natCast]
      have hl := encN_len s.size (by omega)
      rw [e]
      simp only [Option.bind_some, if_true]
      rw [if_pos (by omega)]

theorem wf_byts {l : List Int} (h : ∀ x ∈ l, (Lit.int .u8 x).wf = true) : Byts l := by
  intro x hx
  have := h x hx
  simp only [Lit.wf, Bool.and_eq_true, decide_eq_true_eq] at this
  have hmin : IntKind.u8.min = 0 := rfl
  have hmax : IntKind.u8.max = 255 := rfl
  omega
theorem takeNum_f (l : List Int) (h : Byts l) (hl : l.length < 140737488355328) : quill_TakeNum.f l = some (qTake l) := if_pos ⟨(isByts_iff l).2 h, hl⟩
theorem takeStr_f (l : List Int) (m : Int) (h : Byts l) (hl : l.length < 140737488355328) : quill_TakeStr.f l m = some (qTakeStr l m) := if_pos ⟨(isByts_iff l).2 h, hl⟩

theorem strOfNums_size (l : List Int) : (strOfNums l).size = l.length := by
  show ((l.map fun n => UInt8.ofNat n.toNat).toArray).size = _
  simp
theorem bytesOf_strOfNums (l : List Int) (h : Byts l) : bytesOf (strOfNums l) = l := by
  show ((l.map fun n => UInt8.ofNat n.toNat).toArray.toList).map (fun b => (b.toNat : Int)) = l
  rw [List.map_map]
  apply List.ext_getElem
  · simp
  · intro i h1 h2
    have := h l[i] (List.getElem_mem h2)
    simp
    omega
theorem bytesOf_byts (s : ByteArray) : Byts (bytesOf s) := by
  intro x hx
  unfold bytesOf at hx
  obtain ⟨b, _, rfl⟩ := List.mem_map.1 hx
  have := b.toNat_lt
  omega
theorem bytesOf_len (s : ByteArray) : (bytesOf s).length = s.size := by simp [bytesOf]
theorem strOfNums_bytesOf (s : ByteArray) : strOfNums (bytesOf s) = s := by
  cases s with
  | mk d =>
    unfold strOfNums bytesOf
    congr 1
    apply Array.ext'
    rw [List.map_map]
    have e : ((fun n : Int => UInt8.ofNat n.toNat) ∘ fun b : UInt8 => (b.toNat : Int)) = id := by
      funext b
      show UInt8.ofNat (b.toNat : Int).toNat = b
      rw [Int.toNat_natCast, UInt8.ofNat_toNat]
    rw [e, List.map_id]
theorem qTakeStr_eq (l : List Int) (m n : Int) (rest : List Int) (er : Int) (hm : 0 ≤ m) (h : qTake l = (n, rest, er)) : qTakeStr l m = if er ≠ 0 then ((⟨#[]⟩ : ByteArray), [], er) else if m < n then ((⟨#[]⟩ : ByteArray), [], 5)
    else if (rest.length : Int) < n then ((⟨#[]⟩ : ByteArray), [], 3) else (strOfNums (rest.take n.toNat), rest.drop n.toNat, 0) := by
  unfold qTakeStr
  rw [h, if_neg (by omega)]
theorem numOf_nat (n : Nat) (h : n ≤ 9007199254740991) : numOf (n : Int) = (encN n, 0) := by
  unfold numOf
  rw [if_neg (by omega), Int.toNat_natCast]
theorem strOf_ok (s : ByteArray) (most : Int) (h : (s.size : Int) ≤ most) : strOf s most = (encN s.size ++ bytesOf s, 0) := by
  unfold strOf
  rw [if_neg (by omega), if_neg (by omega)]
/-- A text that was written is read. -/
theorem qTakeStr_ok (s : ByteArray) (rest : List Int) (most : Int) (h : (s.size : Int) ≤ most) (hs : s.size ≤ 9007199254740991) : qTakeStr (encN s.size ++ bytesOf s ++ rest) most = (s, rest, 0) := by
  unfold qTakeStr
  rw [List.append_assoc, qTake_encN s.size hs]
  have hl := bytesOf_len s
  rw [if_neg (by omega), if_neg (by simp), if_neg (by show ¬ most < (s.size : Int); omega), if_neg (by rw [List.length_append]; show ¬ ((_ : Nat) : Int) < (s.size : Int); omega)]
  show (strOfNums ((bytesOf s ++ rest).take (s.size : Int).toNat), (bytesOf s ++ rest).drop (s.size : Int).toNat, (0 : Int)) = _
  rw [Int.toNat_natCast, ← hl, List.take_left, List.drop_left, strOfNums_bytesOf]

theorem mn_cut (n : Nat) : 0 ≤ mn (n : Int) 5000 ∧ mn (n : Int) 5000 ≤ (n : Int) ∧ mn (n : Int) 5000 ≤ 5000 := by
  unfold mn
  split <;> omega

theorem toList_loop (b : ByteArray) : ∀ (d i : Nat) (r : List UInt8), b.size - i = d → ByteArray.toList.loop b i r = r.reverse ++ b.data.toList.drop i := by
  intro d
  induction d with
  | zero =>
    intro i r h
    rw [ByteArray.toList.loop.eq_1, if_neg (by omega), List.drop_of_length_le (by show b.data.toList.length ≤ i; rw [Array.length_toList]; show b.size ≤ i; omega), List.append_nil]
  | succ d ih =>
    intro i r h
    have hi : i < b.data.toList.length := by rw [Array.length_toList]; show i < b.size; omega
    rw [ByteArray.toList.loop.eq_1, if_pos (by omega), ih (i + 1) _ (by omega), List.reverse_cons, List.append_assoc, List.drop_eq_getElem_cons hi]
    have h2 : i < b.data.size := by rw [Array.length_toList] at hi; exact hi
    have e : b.get! i = b.data.toList[i] := by
      unfold ByteArray.get!
      show b.data[i]! = _
      rw [getElem!_pos b.data i h2]
      rfl
    rw [e]
    rfl
theorem ba_toList (b : ByteArray) : b.toList = b.data.toList := by
  show ByteArray.toList.loop b 0 [] = _
  rw [toList_loop b _ 0 [] rfl]
  rfl
theorem ba_inj {a b : ByteArray} (h : a.toList = b.toList) : a = b := by
  rw [ba_toList, ba_toList] at h
  cases a; cases b
  congr 1
  exact Array.ext' h
theorem ba_eq (a b : ByteArray) : (a.toList == b.toList) = decide (a = b) := by
  by_cases h : a = b
  · subst h; simp
  · rw [decide_eq_false h, beq_eq_false_iff_ne]
    exact fun e => h (ba_inj e)
theorem strOfNums_inj {l m : List Int} (hl : Byts l) (hm : Byts m) (h : strOfNums l = strOfNums m) : l = m := by
  rw [← bytesOf_strOfNums l hl, h, bytesOf_strOfNums m hm]

theorem prefix_str (s t : ByteArray) (hs : s.size ≤ 5000) (ht : t.size ≤ 5000) (h : (encN t.size ++ bytesOf t).length ≤ (encN s.size ++ bytesOf s).length)
    (he : (encN s.size ++ bytesOf s).take (encN t.size ++ bytesOf t).length = encN t.size ++ bytesOf t) : s = t := by
  have h1 := qTake_encN s.size (by omega) (bytesOf s)
  have h2 := qTake_encN t.size (by omega) (bytesOf t ++ (encN s.size ++ bytesOf s).drop (encN t.size ++ bytesOf t).length)
  have e : encN t.size ++ (bytesOf t ++ (encN s.size ++ bytesOf s).drop (encN t.size ++ bytesOf t).length) = encN s.size ++ bytesOf s := by
    rw [← List.append_assoc]
    conv => lhs; lhs; rw [← he]
    rw [List.take_append_drop]
  rw [e, h1] at h2
  injection h2 with a1 a2
  injection a2 with a2 _
  have hl := bytesOf_len s
  have hl2 := bytesOf_len t
  have e3 : bytesOf s = bytesOf t := by
    have l := congrArg List.length a2
    rw [List.length_append] at l
    have : ((encN s.size ++ bytesOf s).drop (encN t.size ++ bytesOf t).length) = [] := List.eq_nil_of_length_eq_zero (by omega)
    rw [this, List.append_nil] at a2
    exact a2
  rw [← strOfNums_bytesOf s, e3, strOfNums_bytesOf]
theorem hasPrefix_f (l m : List Int) (hl : Byts l) (hm : Byts m) : bytes_HasPrefix.f l m = some (decide (m.length ≤ l.length ∧ l.take m.length = m)) := by
  unfold bytes_HasPrefix.f
  by_cases h : (l.length : Int) ≥ (m.length : Int)
  · rw [if_pos h, if_pos (by omega), if_pos h]
    unfold bytes_Equal.f
    rw [ba_eq, Int.toNat_natCast]
    simp only [Option.bind_some]
    congr 1
    by_cases h2 : l.take m.length = m
    · rw [h2, decide_eq_true rfl, decide_eq_true ⟨by omega, rfl⟩]
    · rw [decide_eq_false (fun e => h2 (strOfNums_inj (hl.take _) hm e)), decide_eq_false (fun e => h2 e.2)]
  · rw [if_neg h, decide_eq_false (fun e => h (by omega))]
theorem QuillApart : scriptoriumlaw01_QuillApart.Pure := by
  intro s0 t0 hs0 ht0
  obtain ⟨K, hK⟩ : ∃ K, K = 200 := ⟨_, rfl⟩
  refine ⟨K, ?_⟩
  unfold scriptoriumlaw01_QuillApart.f
  have e0 : scriptoriumlaw01_works.f = some true := rfl
  obtain ⟨h0, h1, h2⟩ := mn_cut s0.size
  obtain ⟨h3, h4, h5⟩ := mn_cut t0.size
  rw [e0]
  simp only [Option.bind_some, if_true]
  rw [if_pos h0, if_pos h1, if_pos h3, if_pos h4]
  obtain ⟨s, hs⟩ : ∃ t, t = s0.extract 0 (mn (s0.size : Int) 5000).toNat := ⟨_, rfl⟩
  have hss : s.size ≤ 5000 := by rw [hs, ByteArray.size_extract]; omega
  obtain ⟨t, ht⟩ : ∃ t, t = t0.extract 0 (mn (t0.size : Int) 5000).toNat := ⟨_, rfl⟩
  have hts : t.size ≤ 5000 := by rw [ht, ByteArray.size_extract]; omega
  rw [← ht, ← hs, str_f K s 5000 (by omega) (by omega), strOf_ok s 5000 (by omega), str_f K t 5000 (by omega) (by omega), strOf_ok t 5000 (by omega)]
  simp only [Option.bind_some, if_true]
  have hb1 : Byts (encN t.size ++ bytesOf t) := (encN_byts _ (by omega)).append (bytesOf_byts t)
  have hb2 : Byts (encN s.size ++ bytesOf s) := (encN_byts _ (by omega)).append (bytesOf_byts s)
  rw [hasPrefix_f _ _ hb2 hb1, ba_eq]
  simp only [Option.bind_some]
  congr 1
  rw [beq_iff_eq]
  by_cases e : s = t
  · subst e
    rw [decide_eq_true rfl, decide_eq_true ⟨Nat.le_refl _, List.take_length⟩]
  · rw [decide_eq_false e, decide_eq_false]
    rintro ⟨a, b⟩
    exact e (prefix_str s t hss hts a b)

end Go.Proofs.Ytclbcmblgbinpaa.Pure
