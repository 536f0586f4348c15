/- Frame answers as the document's way says, of all bytes; what is handed in stays, and its spare room: the law FrameMakes, its pure statement. -/
import Derived.Test.YtkboplflbokofaaPFrameMakesx
import Derived.Test.YtkboplflbokofaaQuillEnc
set_option linter.unusedVariables false
set_option linter.unusedSimpArgs false
namespace Go.Proofs.Ytkboplflbokofaa.Pure
open Go.RowKit Go.Proofs.Ytkboplflbokofaa.PFrameMakes Go.Proofs.YtkboplflbokofaaW.PrintWords Go.Proofs.YtkboplflbokofaaW.PrintLast Go.Proofs.YtkboplflbokofaaW.PrintMore
theorem wrap64_id (x : Int) (h0 : -9223372036854775808 ≤ x) (h1 : x < 9223372036854775808) : wrap64 x = x := by unfold wrap64; omega
theorem rd_get (l : List Int) (i : Nat) (h : i < l.length) : rd l (i : Int) = l[i] := by
  simp [rd, List.getD_eq_getElem?_getD, List.getElem?_eq_getElem h]
theorem eqB_l0 (l m : List Int) (hl : l.length = m.length) (hm : l.length ≤ 9223372036854775807) : ∀ (d k i : Nat), i + d = l.length → d < k →
    scriptoriumref00_EqBytes.l0 k l m (i : Int) = some (decide (l.drop i = m.drop i)) := by
  intro d
  induction d with
  | zero =>
    intro k i h1 hk
    obtain ⟨k, rfl⟩ : ∃ j, k = j + 1 := ⟨k - 1, by omega⟩
    simp only [scriptoriumref00_EqBytes.l0]
    rw [if_neg (by omega), List.drop_of_length_le (by omega), List.drop_of_length_le (by omega)]
    simp
  | succ d ih =>
    intro k i h1 hk
    obtain ⟨k, rfl⟩ : ∃ j, k = j + 1 := ⟨k - 1, by omega⟩
    have hil : i < l.length := by omega
    have him : i < m.length := by omega
    simp only [scriptoriumref00_EqBytes.l0]
    rw [if_pos (by omega), if_pos (by omega), if_pos (by omega), rd_get l i hil, rd_get m i him, wrap64_id _ (by omega) (by omega)]
    have e : ((i : Int) + 1) = ((i + 1 : Nat) : Int) := by omega
    rw [e, ih k (i + 1) (by omega) (by omega)]
    have e1 := List.drop_eq_getElem_cons hil
    have e2 := List.drop_eq_getElem_cons him
    rw [e1, e2]
    by_cases hx : l[i] = m[i]
    · rw [if_pos hx, hx]
      congr 1
      apply decide_eq_decide.2
      constructor
      · intro h; rw [h]
      · intro h; exact (List.cons.inj h).2
    · rw [if_neg hx]
      have : ¬ (l[i] :: l.drop (i + 1) = m[i] :: m.drop (i + 1)) := fun h => hx (List.cons.inj h).1
      rw [decide_eq_false this]
theorem eqB (k : Nat) (l m : List Int) (hm : l.length ≤ 9223372036854775807) (hk : l.length < k) : scriptoriumref00_EqBytes.f k l m = some (decide (l = m)) := by
  unfold scriptoriumref00_EqBytes.f
  by_cases hl : l.length = m.length
  · rw [if_pos (by omega)]
    have := eqB_l0 l m hl hm l.length k 0 (by omega) hk
    simpa using this
  · rw [if_neg (by omega)]
    have : ¬ l = m := fun e => hl (by rw [e])
    simp [this]

theorem copyB (l : List Int) (h : l.length * 1 ≤ 140737488351232) : scriptoriumref00_CopyBytes.f l = some l := by
  unfold scriptoriumref00_CopyBytes.f
  rw [if_pos (by simp; omega)]
  rfl

theorem more_rounds {α : Type} {f : Nat → Option α} (h : ∀ k, LeO (f k) (f (k + 1))) {j k : Nat} (hjk : j ≤ k) {r : α} (e : f j = some r) : f k = some r := by
  induction k with
  | zero => obtain rfl : j = 0 := by omega
            exact e
  | succ k ih =>
    by_cases hj : j = k + 1
    · subst hj; exact e
    · exact h k r (ih (by omega))

theorem rev_loop (l : List Int) (hn : l.length ≤ 4611686018427387904) : ∀ (d k i : Nat) (cur : List Int), i + d = l.length / 2 → d < k → cur.length = l.length →
    (∀ p, p < l.length → cur[p]? = if p < i ∨ l.length - 1 - p < i then l[l.length - 1 - p]? else l[p]?) →
    slices_Reverse_byte_byte.l0 k cur (i : Int) ((l.length : Int) - 1 - (i : Int)) = some l.reverse := by
  intro d
  induction d with
  | zero =>
    intro k i cur h1 hk hl hc
    obtain ⟨k, rfl⟩ : ∃ j, k = j + 1 := ⟨k - 1, by omega⟩
    simp only [slices_Reverse_byte_byte.l0]
    rw [if_neg (by omega)]
    congr 1
    apply List.ext_getElem?
    intro p
    by_cases hp : p < l.length
    · rw [hc p hp, List.getElem?_reverse hp]
      by_cases h2 : p < i ∨ l.length - 1 - p < i
      · rw [if_pos h2]
      · rw [if_neg h2]
        congr 1
        omega
    · rw [List.getElem?_eq_none (by omega), List.getElem?_eq_none (by rw [List.length_reverse]; omega)]
  | succ d ih =>
    intro k i cur h1 hk hl hc
    obtain ⟨k, rfl⟩ : ∃ j, k = j + 1 := ⟨k - 1, by omega⟩
    obtain ⟨j, hj⟩ : ∃ j : Nat, (l.length : Int) - 1 - (i : Int) = (j : Int) := ⟨l.length - 1 - i, by omega⟩
    have hij : i < j := by omega
    have hjl : j < l.length := by omega
    have w1 : RowKit.wrap64 ((i : Int) + 1) = ((i + 1 : Nat) : Int) := by unfold RowKit.wrap64; omega
    have w2 : RowKit.wrap64 ((j : Int) - 1) = (l.length : Int) - 1 - ((i + 1 : Nat) : Int) := by unfold RowKit.wrap64; omega
    simp only [slices_Reverse_byte_byte.l0]
    rw [hj, if_pos (by omega), if_pos (by omega), if_pos (by omega), if_pos (by omega), if_pos (by omega), w1, w2, Int.toNat_natCast, Int.toNat_natCast, rd_get cur j (by omega), rd_get cur i (by omega)]
    have hci := hc i (by omega)
    have hcj := hc j hjl
    rw [if_neg (by omega), List.getElem?_eq_getElem (by omega), List.getElem?_eq_getElem (by omega)] at hci hcj
    have hci' := Option.some.inj hci
    have hcj' := Option.some.inj hcj
    refine ih k (i + 1) _ (by omega) (by omega) (by rw [List.length_set, List.length_set]; exact hl) ?_
    intro p hp
    rw [List.getElem?_set, List.getElem?_set, List.length_set]
    by_cases e1 : j = p
    · subst e1
      rw [if_pos rfl, if_pos (by omega), if_pos (by omega), hci', ← List.getElem?_eq_getElem]
      congr 1
      omega
    · rw [if_neg e1]
      by_cases e2 : i = p
      · subst e2
        rw [if_pos rfl, if_pos (by omega), if_pos (by omega), hcj', ← List.getElem?_eq_getElem]
        congr 1
        omega
      · rw [if_neg e2, hc p hp]
        by_cases h2 : p < i ∨ l.length - 1 - p < i
        · rw [if_pos h2, if_pos (by omega)]
        · rw [if_neg h2, if_neg (by omega)]
theorem rev_f (k : Nat) (l : List Int) (hn : l.length ≤ 4611686018427387904) (hk : l.length / 2 < k) : slices_Reverse_byte_byte.f k l = some l.reverse := by
  unfold slices_Reverse_byte_byte.f
  have w : RowKit.wrap64 ((l.length : Int) - 1) = (l.length : Int) - 1 - ((0 : Nat) : Int) := by unfold RowKit.wrap64; omega
  rw [w]
  have h := rev_loop l hn (l.length / 2) k 0 l (by omega) hk rfl (fun p hp => by rw [if_neg (by omega)])
  rw [show ((0 : Nat) : Int) = 0 from rfl] at h ⊢
  exact h

/-- What Num answers. -/
def numOf (n : Int) : List Int × Int := if n < 0 ∨ 9007199254740991 < n then ([], 2) else (encN n.toNat, 0)
theorem leD_stable (f : Nat) : ∀ n j, n < 256 ^ j → j ≤ f → leD f n = leD j n := by
  induction f with
  | zero => intro n j _ h2; obtain rfl : j = 0 := by omega
            rfl
  | succ f ih =>
    intro n j h hj
    cases j with
    | zero => simp at h; subst h; rw [leD_zero, leD_zero]
    | succ j =>
      unfold leD
      by_cases h0 : n = 0
      · rw [if_pos h0, if_pos h0]
      · rw [if_neg h0, if_neg h0, ih (n / 256) j (by rw [Nat.pow_succ] at h; omega) (by omega)]
theorem num_l0 : ∀ (d k n : Nat) (acc : List Int), n < 256 ^ d → acc.length + d ≤ 100 → d + 60 < k →
    quill_Num.l0 k (n : Int) acc = some ((((acc ++ leD d n).length : Int)) % 256 :: (acc ++ leD d n).reverse, 0) := by
  intro d
  induction d with
  | zero =>
    intro k n acc h hl hk
    obtain ⟨k, rfl⟩ : ∃ j, k = j + 1 := ⟨k - 1, by omega⟩
    simp at h
    subst h
    simp only [quill_Num.l0]
    rw [if_neg (by omega), rev_f k acc (by omega) (by omega)]
    simp only [Option.bind_some]
    rw [if_pos (by simp; omega), leD_zero, List.append_nil]
    rfl
  | succ d ih =>
    intro k n acc h hl hk
    obtain ⟨k, rfl⟩ : ∃ j, k = j + 1 := ⟨k - 1, by omega⟩
    simp only [quill_Num.l0]
    by_cases h0 : n = 0
    · subst h0
      rw [if_neg (by omega), rev_f k acc (by omega) (by omega)]
      simp only [Option.bind_some]
      rw [if_pos (by simp; omega), leD_zero, List.append_nil]
      rfl
    · have h2 : n / 256 < 256 ^ d := by rw [Nat.pow_succ] at h; omega
      rw [if_pos (by omega), if_pos (by omega)]
      have e1 : ((n : Int) / 256) = ((n / 256 : Nat) : Int) := by omega
      have e2 : ((n : Int) % 256) = ((n % 256 : Nat) : Int) := by omega
      rw [e1, e2, ih k (n / 256) _ h2 (by rw [List.length_append]; simp; omega) (by omega)]
      have e3 : leD (d + 1) n = ((n % 256 : Nat) : Int) :: leD d (n / 256) := by
        show (if n = 0 then _ else _) = _
        rw [if_neg h0]
      rw [e3, List.append_assoc]
      rfl
theorem num_f (k : Nat) (n : Int) (hk : 80 < k) : quill_Num.f k n = some (numOf n) := by
  obtain ⟨k, rfl⟩ : ∃ j, k = j + 1 := ⟨k - 1, by omega⟩
  unfold quill_Num.f
  simp only [quill_Num.j0]
  by_cases h1 : n < 0
  · have e : numOf n = ([], 2) := if_pos (.inl h1)
    rw [if_pos h1, if_pos trivial, e]
  · rw [if_neg h1]
    by_cases h2 : 9007199254740991 < n
    · have e : numOf n = ([], 2) := if_pos (.inr h2)
      rw [if_pos (decide_eq_true h2), e]
    · have hd : decide (n > 9007199254740991) = false := decide_eq_false h2
      have e : numOf n = (encN n.toNat, 0) := if_neg (by omega)
      rw [hd, if_neg (by simp), e]
      obtain ⟨m, rfl⟩ := Int.eq_ofNat_of_zero_le (show 0 ≤ n by omega)
      rw [num_l0 8 k m [] (lt_pow8 m (by omega)) (by simp) (by omega)]
      have hl := enc_len m (by omega)
      unfold encN enc
      unfold enc at hl
      rw [List.length_reverse] at hl ⊢
      rw [List.nil_append, Int.toNat_natCast]
      congr 3
      omega

theorem refnum_l0 : ∀ (d k n : Nat) (acc : List Int), n < 256 ^ d → n ≤ 9007199254740991 → acc.length + d ≤ 100 → d < k →
    scriptoriumref01_Num.l0 k (n : Int) acc = some ((((leD d n).reverse ++ acc).length : Int) % 256 :: ((leD d n).reverse ++ acc), 0) := by
  intro d
  induction d with
  | zero =>
    intro k n acc h hbig hl hk
    obtain ⟨k, rfl⟩ : ∃ j, k = j + 1 := ⟨k - 1, by omega⟩
    simp at h
    subst h
    simp only [scriptoriumref01_Num.l0]
    rw [if_neg (by omega)]
    simp only [Option.bind_some]
    rw [if_pos (by simp; omega), leD_zero]
    rfl
  | succ d ih =>
    intro k n acc h hbig hl hk
    obtain ⟨k, rfl⟩ : ∃ j, k = j + 1 := ⟨k - 1, by omega⟩
    simp only [scriptoriumref01_Num.l0]
    by_cases h0 : n = 0
    · subst h0
      rw [if_neg (by omega)]
      simp only [Option.bind_some]
      rw [if_pos (by simp; omega), leD_zero]
      rfl
    · have h2 : n / 256 < 256 ^ d := by rw [Nat.pow_succ] at h; omega
      rw [if_pos (by omega)]
      simp only [Option.bind_some]
      · have e1 : RowKit.wrap64 (Int.tdiv (n : Int) 256) = ((n / 256 : Nat) : Int) := by
          rw [Int.tdiv_eq_ediv_of_nonneg (by omega)]; unfold RowKit.wrap64; omega
        have e2 : Int.tmod (n : Int) 256 % 256 = ((n % 256 : Nat) : Int) := by
          rw [Int.tmod_eq_emod_of_nonneg (by omega)]; omega
        rw [if_pos (by simp; omega), e1, e2, ih k (n / 256) _ h2 (by omega) (by rw [List.length_append]; simp; omega) (by omega)]
        have e3 : leD (d + 1) n = ((n % 256 : Nat) : Int) :: leD d (n / 256) := by
          show (if n = 0 then _ else _) = _
          rw [if_neg h0]
        rw [e3, List.reverse_cons, List.append_assoc]
theorem refnum_f (k : Nat) (n : Int) (hk : 80 < k) : scriptoriumref01_Num.f k n = some (numOf n) := by
  obtain ⟨k, rfl⟩ : ∃ j, k = j + 1 := ⟨k - 1, by omega⟩
  unfold scriptoriumref01_Num.f
  simp only [scriptoriumref01_Num.j0]
  by_cases h1 : n < 0
  · have e : numOf n = ([], 2) := if_pos (.inl h1)
    rw [if_pos h1, if_pos trivial, e]
  · rw [if_neg h1]
    by_cases h2 : 9007199254740991 < n
    · have e : numOf n = ([], 2) := if_pos (.inr h2)
      rw [if_pos (decide_eq_true h2), e]
    · have hd : decide (n > 9007199254740991) = false := decide_eq_false h2
      have e : numOf n = (encN n.toNat, 0) := if_neg (by omega)
      rw [hd, if_neg (by simp), e]
      obtain ⟨m, rfl⟩ := Int.eq_ofNat_of_zero_le (show 0 ≤ n by omega)
      rw [refnum_l0 8 k m [] (lt_pow8 m (by omega)) (by omega) (by simp) (by omega)]
      have hl := enc_len m (by omega)
      unfold encN
      unfold enc at hl ⊢
      rw [List.append_nil, Int.toNat_natCast]
      congr 3
      omega

theorem ref_step (v : BitVec 32) : (if n32 v / 2147483648 = 1 then Go.bits .xor .u32 ((n32 v * 2) % 4294967296) 79764919 else (n32 v * 2) % 4294967296) = n32 (bstep v) := by
  have hs := crcStep_n32 v
  unfold crcStep at hs
  rw [← hs]
  have hm : (n32 v / 2147483648 = 1) ↔ v.msb = true := by
    have := n32_bd v
    rw [BitVec.msb_eq_true_iff_two_mul_ge]
    unfold n32 at *
    omega
  by_cases h : v.msb = true
  · rw [if_pos (hm.2 h), if_neg (by rw [top_zero]; simp [h])]
  · rw [if_neg (fun e => h (hm.1 e)), if_pos (by rw [top_zero]; simpa using h)]
theorem ref_take_l0 : ∀ (d k i : Nat) (v : BitVec 32), i + d = 8 → d < k → scriptoriumref03_take.l0 k (n32 v) (i : Int) = some (n32 (bsteps d v)) := by
  intro d
  induction d with
  | zero =>
    intro k i v h1 hk
    obtain ⟨k, rfl⟩ : ∃ j, k = j + 1 := ⟨k - 1, by omega⟩
    simp only [scriptoriumref03_take.l0]
    rw [if_neg (by omega)]
    rfl
  | succ d ih =>
    intro k i v h1 hk
    obtain ⟨k, rfl⟩ : ∃ j, k = j + 1 := ⟨k - 1, by omega⟩
    have hs := ref_step v
    simp only [scriptoriumref03_take.l0]
    have e : wrap64 ((i : Int) + 1) = ((i + 1 : Nat) : Int) := by unfold wrap64; omega
    rw [if_pos (by omega), e]
    by_cases h : n32 v / 2147483648 = 1
    · rw [if_pos h] at hs ⊢
      rw [hs, ih k (i + 1) _ (by omega) (by omega)]; rfl
    · rw [if_neg h] at hs ⊢
      rw [hs, ih k (i + 1) _ (by omega) (by omega)]; rfl
theorem ref_take (k : Nat) (v : BitVec 32) (c : Int) (h0 : 0 ≤ c) (h1 : c < 256) (hk : 8 < k) : scriptoriumref03_take.f k (n32 v) c = some (n32 (btake v (w8 c))) := by
  unfold scriptoriumref03_take.f
  have e : (c % 4294967296 * 16777216) % 4294967296 = n32 (up (w8 c)) := by
    have := n32_up (w8 c)
    rwa [n8_w8 c h0 h1] at this
  rw [e, xor32, w32_n32, w32_n32]
  exact ref_take_l0 8 k 0 _ rfl hk
theorem ref_Add_l0 (l : List Int) (hb : Bytes l) (hm : l.length ≤ 9223372036854775807) : ∀ (d k i : Nat) (v : BitVec 32), i + d = l.length → d + 9 < k →
    scriptoriumref03_Add.l0 k (n32 v) l (i : Int) = some (n32 (~~~ (bfold v (ws (l.drop i))))) := by
  intro d
  induction d with
  | zero =>
    intro k i v h1 hk
    obtain ⟨k, rfl⟩ : ∃ j, k = j + 1 := ⟨k - 1, by omega⟩
    simp only [scriptoriumref03_Add.l0]
    rw [if_neg (by omega), compl32, List.drop_of_length_le (by omega)]
    rfl
  | succ d ih =>
    intro k i v h1 hk
    obtain ⟨k, rfl⟩ : ∃ j, k = j + 1 := ⟨k - 1, by omega⟩
    have hil : i < l.length := by omega
    have hbi := hb l[i] (List.getElem_mem hil)
    simp only [scriptoriumref03_Add.l0]
    have e : wrap64 ((i : Int) + 1) = ((i + 1 : Nat) : Int) := by unfold wrap64; omega
    rw [if_pos (by omega), if_pos (by omega), rd_get l i hil, ref_take k v _ hbi.1 hbi.2 (by omega), e]
    simp only [Option.bind_some]
    rw [ih k (i + 1) _ (by omega) (by omega), List.drop_eq_getElem_cons hil]
    rfl
theorem ref_Add (k : Nat) (s : Int) (l : List Int) (h0 : 0 ≤ s) (h1 : s < 4294967296) (hb : Bytes l) (hm : l.length ≤ 9223372036854775807) (hk : l.length + 9 < k) :
    scriptoriumref03_Add.f k s l = some (crcAdd s l) := by
  unfold scriptoriumref03_Add.f
  rw [crcAdd_eq s l h0 h1 hb]
  have hs := n32_w32 s h0 h1
  rw [← hs, compl32, hs]
  have := ref_Add_l0 l hb hm l.length k 0 (~~~ (w32 s)) (by omega) hk
  simpa using this

/-- A sum's bytes, the highest one first. -/
def sumB (s : Int) : List Int := [shr .u32 s 24 % 256, shr .u32 s 16 % 256, shr .u32 s 8 % 256, shr .u32 s 0 % 256]
theorem w64_lit (x : Int) (h0 : -9223372036854775808 ≤ x) (h1 : x < 9223372036854775808) : wrap64 x = x := by unfold wrap64; omega
theorem sum_f (k : Nat) (l : List Int) (hk : 10 < k) : frame_sum.f k l = some (sumB (crcAdd 0 l)) := by
  obtain ⟨k, rfl⟩ : ∃ j, k = j + 5 := ⟨k - 5, by omega⟩
  have ec : crc_Of.f l = some (crcAdd 0 l) := rfl
  unfold frame_sum.f
  rw [ec]
  simp only [Option.bind_some]
  rw [if_pos (by decide)]
  generalize crcAdd 0 l = s
  have l4 : ((List.replicate 4 (0 : Int)).length : Int) = 4 := rfl
  rw [l4]
  have e : List.replicate 4 (0 : Int) = [0, 0, 0, 0] := rfl
  rw [e]
  have a0 : wrap64 (0 + 1) = 1 := w64_lit _ (by omega) (by omega)
  have a1 : wrap64 (1 + 1) = 2 := w64_lit _ (by omega) (by omega)
  have a2 : wrap64 (2 + 1) = 3 := w64_lit _ (by omega) (by omega)
  have a3 : wrap64 (3 + 1) = 4 := w64_lit _ (by omega) (by omega)
  have b0 : wrap64 (8 * wrap64 (3 - 0)) = 24 := by rw [w64_lit (3 - 0) (by omega) (by omega), w64_lit _ (by omega) (by omega)]; rfl
  have b1 : wrap64 (8 * wrap64 (3 - 1)) = 16 := by rw [w64_lit (3 - 1) (by omega) (by omega), w64_lit _ (by omega) (by omega)]; rfl
  have b2 : wrap64 (8 * wrap64 (3 - 2)) = 8 := by rw [w64_lit (3 - 2) (by omega) (by omega), w64_lit _ (by omega) (by omega)]; rfl
  have b3 : wrap64 (8 * wrap64 (3 - 3)) = 0 := by rw [w64_lit (3 - 3) (by omega) (by omega), w64_lit _ (by omega) (by omega)]; rfl
  simp only [frame_sum.l0, a0, a1, a2, a3, b0, b1, b2, b3]
  rfl
theorem sumB_len (s : Int) : (sumB s).length = 4 := rfl
theorem sumB_byts (s : Int) : Byts (sumB s) := by
  unfold sumB
  refine Byts.cons ⟨by omega, by omega⟩ (Byts.cons ⟨by omega, by omega⟩ (Byts.cons ⟨by omega, by omega⟩ (Byts.cons ⟨by omega, by omega⟩ Byts.nil)))
theorem sumB_inj (s t : Int) (hs : 0 ≤ s ∧ s < 4294967296) (ht : 0 ≤ t ∧ t < 4294967296) (h : sumB s = sumB t) : s = t := by
  unfold sumB shr at h
  injection h with h0 h
  injection h with h1 h
  injection h with h2 h
  injection h with h3 _
  have e0 : (2 : Int) ^ min (24 : Int).toNat IntKind.u32.bits = 16777216 := by decide
  have e1 : (2 : Int) ^ min (16 : Int).toNat IntKind.u32.bits = 65536 := by decide
  have e2 : (2 : Int) ^ min (8 : Int).toNat IntKind.u32.bits = 256 := by decide
  have e3 : (2 : Int) ^ min (0 : Int).toNat IntKind.u32.bits = 1 := by decide
  rw [e0] at h0
  rw [e1] at h1
  rw [e2] at h2
  rw [e3] at h3
  omega

/-- What stands ahead of the sum; a record. -/
def frB (p : List Int) : List Int := encN p.length ++ p
def frE (p : List Int) : List Int := frB p ++ sumB (crcAdd 0 (frB p))
theorem numOf_nat' (n : Nat) (h : n ≤ 9007199254740991) : numOf (n : Int) = (encN n, 0) := by
  unfold numOf
  rw [if_neg (by omega), Int.toNat_natCast]
theorem frame_f (k : Nat) (p : List Int) (hk : 100 < k) (hl : p.length ≤ 65536) : frame_Frame.f k p = some (frE p, 0) := by
  have he := encN_len p.length (by omega)
  unfold frame_Frame.f
  rw [if_neg (by omega), num_f k _ (by omega), numOf_nat' p.length (by omega), Option.bind_some]
  dsimp only
  rw [if_pos rfl]
  have hc : slices_Concat_byte_byte.f [encN p.length, p] = some (frB p) := by
    unfold slices_Concat_byte_byte.f
    have h1 : sumLen [encN p.length, p] = (encN p.length).length + (p.length + 0) := rfl
    rw [if_pos (by rw [h1]; omega)]
    have h2 : [encN p.length, p].flatten = encN p.length ++ (p ++ []) := rfl
    rw [h2, List.append_nil]
    rfl
  rw [hc, Option.bind_some, sum_f k _ (by omega), Option.bind_some, if_pos (by rw [sumB_len]; unfold frB; rw [List.length_append]; omega)]
  rfl
theorem frame_long (k : Nat) (p : List Int) (hl : 65536 < p.length) : frame_Frame.f k p = some ([], 5) := by
  unfold frame_Frame.f
  rw [if_pos (by omega)]
theorem eqS_l0 (l m : List Int) (hl : l.length = m.length) (hm : l.length ≤ 9223372036854775807) : ∀ (d k i : Nat), i + d = l.length → d < k →
    slices_Equal_byte_byte.l0 k l m (l.length : Int) (i : Int) = some (decide (l.drop i = m.drop i)) := by
  intro d
  induction d with
  | zero =>
    intro k i h1 hk
    obtain ⟨k, rfl⟩ : ∃ j, k = j + 1 := ⟨k - 1, by omega⟩
    simp only [slices_Equal_byte_byte.l0]
    rw [if_neg (by omega), List.drop_of_length_le (by omega), List.drop_of_length_le (by omega)]
    simp
  | succ d ih =>
    intro k i h1 hk
    obtain ⟨k, rfl⟩ : ∃ j, k = j + 1 := ⟨k - 1, by omega⟩
    have hil : i < l.length := by omega
    have him : i < m.length := by omega
    simp only [slices_Equal_byte_byte.l0]
    rw [if_pos (by omega), if_pos (by omega), if_pos (by omega), if_pos (by omega), rd_get l i hil, rd_get m i him, wrap64_id _ (by omega) (by omega)]
    have e : ((i : Int) + 1) = ((i + 1 : Nat) : Int) := by omega
    rw [e, ih k (i + 1) (by omega) (by omega)]
    have e1 := List.drop_eq_getElem_cons hil
    have e2 := List.drop_eq_getElem_cons him
    rw [e1, e2]
    by_cases hx : l[i] = m[i]
    · rw [if_pos hx, hx]
      congr 1
      apply decide_eq_decide.2
      constructor
      · intro h; rw [h]
      · intro h; exact (List.cons.inj h).2
    · rw [if_neg hx]
      have : ¬ (l[i] :: l.drop (i + 1) = m[i] :: m.drop (i + 1)) := fun h => hx (List.cons.inj h).1
      rw [decide_eq_false this]
theorem eqS (k : Nat) (l m : List Int) (hm : l.length ≤ 9223372036854775807) (hk : l.length < k) : slices_Equal_byte_byte.f k l m = some (decide (l = m)) := by
  unfold slices_Equal_byte_byte.f
  by_cases hl : l.length = m.length
  · rw [if_pos (by omega)]
    have := eqS_l0 l m hl hm l.length k 0 (by omega) hk
    simpa using this
  · rw [if_neg (by omega)]
    have : ¬ l = m := fun e => hl (by rw [e])
    simp [this]
theorem takeNum_f' (l : List Int) (h : Byts l) (hl : l.length < 140737488355328) : quill_TakeNum.f l = some (qTake l) := if_pos ⟨(isByts_iff l).2 h, hl⟩
/-- What next tells of bytes that begin with a number. -/
def nextOf (n : Nat) (rest : List Int) : Int × Int × Int :=
  if 65536 < n then (0, 0, 5) else if rest.length < n + 4 then (0, 0, 3)
  else if (rest.drop n).take 4 = sumB (crcAdd 0 (encN n ++ rest.take n)) then (((encN n).length : Int), (((encN n).length + n : Nat) : Int), 0) else (0, 0, 40)
theorem next_f (k : Nat) (n : Nat) (rest : List Int) (hk : 100 < k) (hn : n ≤ 9007199254740991) (hb : Byts (encN n ++ rest)) (hl : (encN n ++ rest).length < 140737488355328) :
    frame_next.f k (encN n ++ rest) = some (nextOf n rest) := by
  have he := encN_len n hn
  rw [List.length_append] at hl
  unfold frame_next.f nextOf
  rw [takeNum_f' _ hb (by rw [List.length_append]; exact hl), qTake_encN n hn rest, Option.bind_some]
  dsimp only
  rw [if_pos rfl]
  by_cases c1 : 65536 < n
  · rw [if_pos (by omega), if_pos c1]
  rw [if_neg (by omega), if_neg c1, wrap64_id _ (by omega) (by omega)]
  by_cases c2 : rest.length < n + 4
  · rw [if_pos (by omega), if_pos c2]
  rw [if_neg (by omega), if_neg c2]
  have w1 : wrap64 (((encN n ++ rest).length : Int) - (rest.length : Int)) = ((encN n).length : Int) := by
    rw [List.length_append, wrap64_id _ (by omega) (by omega)]
    omega
  have w2 : wrap64 (((encN n).length : Int) + (n : Int)) = (((encN n).length + n : Nat) : Int) := by rw [wrap64_id _ (by omega) (by omega)]; omega
  have w3 : wrap64 ((((encN n).length + n : Nat) : Int) + 4) = (((encN n).length + n + 4 : Nat) : Int) := by rw [wrap64_id _ (by omega) (by omega)]; omega
  rw [w1, w2, w3, if_pos (by omega), if_pos (by omega), if_pos (by rw [List.length_append]; omega), if_pos (by rw [List.length_append]; omega), sum_f k _ (by omega), Option.bind_some, Int.toNat_natCast, Int.toNat_natCast]
  have t1 : (encN n ++ rest).take ((encN n).length + n) = encN n ++ rest.take n := by rw [List.take_append, List.take_of_length_le (by omega), Nat.add_sub_cancel_left]
  have t2 : ((encN n ++ rest).take ((encN n).length + n + 4)).drop ((encN n).length + n) = (rest.drop n).take 4 := by
    rw [Nat.add_assoc, List.take_append, List.take_of_length_le (by omega), Nat.add_sub_cancel_left, ← List.drop_drop, List.drop_left, List.drop_take, Nat.add_sub_cancel_left]
  rw [t1, t2, eqS k _ _ (by rw [List.length_take, List.length_drop]; omega) (by rw [List.length_take, List.length_drop]; omega), Option.bind_some]
  by_cases c3 : (rest.drop n).take 4 = sumB (crcAdd 0 (encN n ++ rest.take n))
  · rw [if_pos (decide_eq_true c3), if_pos c3]
  · rw [decide_eq_false c3, if_neg (by simp), if_neg c3]
theorem next_err (k : Nat) (l : List Int) (hb : Byts l) (hl : l.length < 140737488355328) (h : (qTake l).2.2 ≠ 0) : frame_next.f k l = some (0, 0, (qTake l).2.2) := by
  unfold frame_next.f
  rw [takeNum_f' _ hb hl, Option.bind_some, if_neg h]
/-- What Next tells. -/
theorem Next_no (k : Nat) (l : List Int) (e : Int) (h : frame_next.f k l = some (0, 0, e)) (he : e ≠ 0) : frame_Next.f k l = some ([], 0, e) := by
  unfold frame_Next.f
  rw [h, Option.bind_some]
  dsimp only
  rw [if_neg he]
/-- Next tells just of what is a record, and what comes behind it. -/
theorem Next_cases (k : Nat) (l : List Int) (hk : 100 < k) (hb : Byts l) (hl : l.length < 140737488355328) :
    (∃ e, (e = 3 ∨ e = 4 ∨ e = 5 ∨ e = 40) ∧ frame_Next.f k l = some ([], 0, e)) ∨
    (∃ p r, p.length ≤ 65536 ∧ l = frE p ++ r ∧ frame_Next.f k l = some (p, ((frE p).length : Int), 0)) := by
  by_cases h0 : (qTake l).2.2 = 0
  · obtain ⟨n, hn, _, h2⟩ := qTake_ok l hb h0
    generalize (qTake l).2.1 = rest at h2
    subst h2
    have he := encN_len n hn
    have hf := next_f k n rest hk hn hb hl
    unfold nextOf at hf
    rw [List.length_append] at hl
    by_cases c1 : 65536 < n
    · rw [if_pos c1] at hf
      exact .inl ⟨5, by omega, Next_no k _ 5 hf (by decide)⟩
    rw [if_neg c1] at hf
    by_cases c2 : rest.length < n + 4
    · rw [if_pos c2] at hf
      exact .inl ⟨3, by omega, Next_no k _ 3 hf (by decide)⟩
    rw [if_neg c2] at hf
    by_cases c3 : (rest.drop n).take 4 = sumB (crcAdd 0 (encN n ++ rest.take n))
    · rw [if_pos c3] at hf
      have hpl : (rest.take n).length = n := by rw [List.length_take]; omega
      have e1 : frE (rest.take n) = encN n ++ rest.take n ++ (rest.drop n).take 4 := by
        unfold frE frB
        rw [hpl, c3]
      refine .inr ⟨rest.take n, rest.drop (n + 4), by omega, ?_, ?_⟩
      · rw [e1, List.append_assoc, List.append_assoc, ← List.drop_drop, List.take_append_drop, List.take_append_drop]
      · unfold frame_Next.f
        rw [hf, Option.bind_some]
        dsimp only
        rw [if_pos rfl, if_pos (by omega), if_pos (by omega), if_pos (by rw [List.length_append]; omega), Int.toNat_natCast, Int.toNat_natCast]
        have t1 : ((encN n ++ rest).take ((encN n).length + n)).drop (encN n).length = rest.take n := by
          rw [List.take_append, List.take_of_length_le (by omega), Nat.add_sub_cancel_left, List.drop_left]
        have hc : slices_Clone_byte_byte.f (rest.take n) = some (rest.take n) := if_pos (by omega)
        rw [t1, hc, Option.bind_some, wrap64_id _ (by omega) (by omega)]
        have e2 : (frE (rest.take n)).length = (encN n).length + n + 4 := by
          rw [e1, List.length_append, List.length_append, hpl, List.length_take, List.length_drop]
          omega
        rw [e2]
        rfl
    · rw [if_neg c3] at hf
      exact .inl ⟨40, by omega, Next_no k _ 40 hf (by decide)⟩
  · have h1 := next_err k l hb hl h0
    obtain ⟨_, _, h3⟩ := qTake_err l h0
    exact .inl ⟨(qTake l).2.2, by omega, Next_no k _ _ h1 h0⟩
theorem crc_bd (l : List Int) : 0 ≤ crcAdd 0 l ∧ crcAdd 0 l < 4294967296 := crcAdd_bd 0 l
theorem frB_byts (p : List Int) (h : Byts p) (hl : p.length ≤ 65536) : Byts (frB p) := (encN_byts _ (by omega)).append h
theorem frE_byts (p : List Int) (h : Byts p) (hl : p.length ≤ 65536) : Byts (frE p) := (frB_byts p h hl).append (sumB_byts _)
theorem frE_len (p : List Int) : (frE p).length = (encN p.length).length + p.length + 4 := by
  unfold frE frB
  rw [List.length_append, List.length_append, sumB_len]
/-- A record, and what comes behind it: Next tells it. -/
theorem Next_yes (k : Nat) (p r : List Int) (hk : 100 < k) (hp : p.length ≤ 65536) (hb : Byts (frE p ++ r)) (hl : (frE p ++ r).length < 140737488355328) : frame_Next.f k (frE p ++ r) = some (p, ((frE p).length : Int), 0) := by
  have he := encN_len p.length (by omega)
  have hL := frE_len p
  have e1 : frE p ++ r = encN p.length ++ (p ++ (sumB (crcAdd 0 (frB p)) ++ r)) := by unfold frE frB; simp only [List.append_assoc]
  rw [List.length_append] at hl
  have hf := next_f k p.length (p ++ (sumB (crcAdd 0 (frB p)) ++ r)) hk (by omega) (by rw [← e1]; exact hb) (by rw [← e1, List.length_append]; exact hl)
  unfold nextOf at hf
  rw [if_neg (by omega), if_neg (by rw [List.length_append, List.length_append, sumB_len]; omega), List.drop_left, List.take_left] at hf
  have t4 : (sumB (crcAdd 0 (frB p)) ++ r).take 4 = sumB (crcAdd 0 (frB p)) := List.take_left' (sumB_len _)
  rw [t4, if_pos (show sumB (crcAdd 0 (frB p)) = sumB (crcAdd 0 (encN p.length ++ p)) from rfl), ← e1] at hf
  unfold frame_Next.f
  rw [hf, Option.bind_some]
  dsimp only
  rw [if_pos rfl, if_pos (by omega), if_pos (by omega), if_pos (by rw [List.length_append]; omega), Int.toNat_natCast, Int.toNat_natCast]
  have t1 : ((frE p ++ r).take ((encN p.length).length + p.length)).drop (encN p.length).length = p := by
    rw [e1, List.take_append, List.take_of_length_le (by omega), Nat.add_sub_cancel_left, List.drop_left, List.take_left]
  have hc : slices_Clone_byte_byte.f p = some p := if_pos (by omega)
  rw [t1, hc, Option.bind_some, wrap64_id _ (by omega) (by omega), hL]
  rfl

theorem refOf_f (k : Nat) (l : List Int) (hb : Bytes l) (hm : l.length ≤ 140737488355328) (hk : l.length + 9 < k) : scriptoriumref03_Of.f k l = some (crcAdd 0 l) := by
  unfold scriptoriumref03_Of.f
  rw [ref_Add k 0 l (by omega) (by omega) hb (by omega) hk]
  rfl
theorem refsum_f (k : Nat) (l : List Int) (hb : Bytes l) (hm : l.length ≤ 140737488355328) (hk : l.length + 9 < k) : scriptoriumref04_sum.f k l = some (sumB (crcAdd 0 l)) := by
  unfold scriptoriumref04_sum.f
  rw [refOf_f k l hb hm hk, Option.bind_some]
  have hs := crcAdd_bd 0 l
  generalize crcAdd 0 l = s at hs ⊢
  have e0 : shr .u32 s 24 = s / 16777216 := rfl
  have e1 : shr .u32 s 16 = s / 65536 := rfl
  have e2 : shr .u32 s 8 = s / 256 := rfl
  have e3 : shr .u32 s 0 = s := by show s / 1 = s; omega
  unfold sumB
  rw [e0, e1, e2, e3]
theorem refFrame_f (k : Nat) (p : List Int) (hb : Byts p) (hl : p.length ≤ 65536) (hk : p.length + 200 < k) : scriptoriumref04_Frame.f k p = some (frE p, 0) := by
  have he := encN_len p.length (by omega)
  unfold scriptoriumref04_Frame.f
  rw [if_neg (by omega), refnum_f k _ (by omega), numOf_nat' p.length (by omega), Option.bind_some]
  dsimp only
  rw [if_pos rfl, if_pos (by omega), Option.bind_some]
  have hB : Byts (encN p.length ++ p) := frB_byts p hb hl
  have hBl : (encN p.length ++ p).length ≤ 70000 := by rw [List.length_append]; omega
  have hk2 : (encN p.length ++ p).length + 9 < k := by rw [List.length_append]; omega
  rw [refsum_f k _ hB (by omega) hk2, Option.bind_some, if_pos (by rw [sumB_len]; omega)]
  rfl
theorem refFrame_long (k : Nat) (p : List Int) (hl : 65536 < p.length) : scriptoriumref04_Frame.f k p = some ([], 5) := by
  unfold scriptoriumref04_Frame.f
  rw [if_pos (by omega)]

theorem wf_byts {l : List Int} (h : ∀ x ∈ l, (Lit.int .u8 x).wf = true) : Byts l := by
  intro x hx
  have := h x hx
  simp only [Lit.wf, Bool.and_eq_true, decide_eq_true_eq] at this
  have hmin : IntKind.u8.min = 0 := rfl
  have hmax : IntKind.u8.max = 255 := rfl
  omega

theorem works_f (k : Nat) (hk : 120 ≤ k) : scriptoriumlaw04_works.f k = some true := more_rounds scriptoriumlaw04_works.mono hk (by kernel_rfl)

theorem sevens (l : List Int) (hl : l.length ≤ 140737488351232) : ∀ (d k i : Nat), i + d = l.length + 8 → l.length ≤ i → d + 200 < k →
    scriptoriumlaw04_FrameMakes.l0 k (l ++ [7, 7, 7, 7, 7, 7, 7, 7]) (i : Int) = some true := by
  have hL : (l ++ [7, 7, 7, 7, 7, 7, 7, 7] : List Int).length = l.length + 8 := by rw [List.length_append]; rfl
  intro d
  induction d with
  | zero =>
    intro k i h1 h2 hk
    obtain ⟨k, rfl⟩ : ∃ j, k = j + 1 := ⟨k - 1, by omega⟩
    simp only [scriptoriumlaw04_FrameMakes.l0]
    rw [if_neg (by omega), works_f k (by omega)]
    rfl
  | succ d ih =>
    intro k i h1 h2 hk
    obtain ⟨k, rfl⟩ : ∃ j, k = j + 1 := ⟨k - 1, by omega⟩
    have hi : i < (l ++ [7, 7, 7, 7, 7, 7, 7, 7] : List Int).length := by omega
    have h7 : (l ++ [7, 7, 7, 7, 7, 7, 7, 7] : List Int)[i] = 7 := by
      rw [List.getElem_append_right h2]
      have h3 : [7, 7, 7, 7, 7, 7, 7, 7] = List.replicate 8 (7 : Int) := rfl
      simp only [h3, List.getElem_replicate]
    simp only [scriptoriumlaw04_FrameMakes.l0]
    rw [if_pos (by omega), if_pos (by omega), rd_get _ i hi, h7, if_pos rfl, wrap64_id _ (by omega) (by omega)]
    exact ih k (i + 1) (by omega) (by omega) (by omega)
theorem FrameMakes : scriptoriumlaw04_FrameMakes.Pure := by
  intro l hm hl hw
  have hb := wf_byts hw
  obtain ⟨K, hK⟩ : ∃ K, K = l.length + 100000 := ⟨_, rfl⟩
  refine ⟨K + 1, ?_⟩
  have hL : (l ++ [7, 7, 7, 7, 7, 7, 7, 7] : List Int).length = l.length + 8 := by rw [List.length_append]; rfl
  have ht : (l ++ [7, 7, 7, 7, 7, 7, 7, 7] : List Int).take l.length = l := List.take_left
  have h8 : ([7, 7, 7, 7, 7, 7, 7, 7] : List Int).length = 8 := rfl
  unfold scriptoriumlaw04_FrameMakes.f
  rw [copyB l (by omega), Option.bind_some, Option.bind_some, if_pos (by omega), Option.bind_some, if_pos (by omega), if_pos (by omega), Int.toNat_natCast, ht]
  have fin : scriptoriumlaw04_FrameMakes.j0 (K + 1) l (l ++ [7, 7, 7, 7, 7, 7, 7, 7]) (!decide (l = l)) = some true := by
    unfold scriptoriumlaw04_FrameMakes.j0
    dsimp only
    rw [if_neg (by simp)]
    exact sevens l (by omega) 8 K l.length (by omega) (by omega) (by omega)
  have hE : ∀ x : List Int, x.length ≤ 90000 → scriptoriumref00_EqBytes.f (K + 1) x x = some true := by
    intro x hx
    rw [eqB (K + 1) x x (by omega) (by omega)]
    simp
  have hll : scriptoriumref00_EqBytes.f (K + 1) l l = some (decide (l = l)) := eqB (K + 1) l l (by omega) (by omega)
  by_cases c : l.length ≤ 65536
  · have he := encN_len l.length (by omega)
    have hfl := frE_len l
    rw [frame_f (K + 1) l (by omega) c, refFrame_f (K + 1) l hb c (by omega), Option.bind_some, Option.bind_some]
    dsimp only
    rw [hE (frE l) (by omega), Option.bind_some, if_pos rfl, if_pos rfl, hll, Option.bind_some]
    exact fin
  · rw [frame_long (K + 1) l (by omega), refFrame_long (K + 1) l (by omega), Option.bind_some, Option.bind_some]
    dsimp only
    rw [hE [] (by simp), Option.bind_some, if_pos rfl, if_pos rfl, hll, Option.bind_some]
    exact fin

end Go.Proofs.Ytkboplflbokofaa.Pure
