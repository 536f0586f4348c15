/- Join answers as the document's way says: the law QuillJoin (second form), its pure statement. -/
import Derived.Test.YtclbcmblgbinpaaPQuillJoinx
import Derived.Test.YtclbcmblgbinpaaQuillEnc
set_option linter.unusedVariables false
set_option linter.unusedSimpArgs false
namespace Go.Proofs.Ytclbcmblgbinpaa.Pure
open Go.RowKit Go.Proofs.Ytclbcmblgbinpaa.PQuillJoin Go.Proofs.YtclbcmblgbinpaaW.PrintWords Go.Proofs.YtclbcmblgbinpaaW.PrintLast Go.Proofs.YtclbcmblgbinpaaW.PrintMore
theorem wrap64_id (x : Int) (h0 : -9223372036854775808 ≤ x) (h1 : x < 9223372036854775808) : wrap64 x = x := by unfold wrap64; omega
theorem rd_get (l : List Int) (i : Nat) (h : i < l.length) : rd l (i : Int) = l[i] := by
  simp [rd, List.getD_eq_getElem?_getD, List.getElem?_eq_getElem h]
theorem eqB_l0 (l m : List Int) (hl : l.length = m.length) (hm : l.length ≤ 9223372036854775807) : ∀ (d k i : Nat), i + d = l.length → d < k →
    scriptoriumref00_EqBytes.l0 k l m (i : Int) = some (decide (l.drop i = m.drop i)) := by
  intro d
  induction d with
  | zero =>
    intro k i h1 hk
    obtain ⟨k, rfl⟩ : ∃ j, k = j + 1 := ⟨k - 1, by omega⟩
    simp only [scriptoriumref00_EqBytes.l0]
    rw [if_neg (by omega), List.drop_of_length_le (by omega), List.drop_of_length_le (by omega)]
    simp
  | succ d ih =>
    intro k i h1 hk
    obtain ⟨k, rfl⟩ : ∃ j, k = j + 1 := ⟨k - 1, by omega⟩
    have hil : i < l.length := by omega
    have him : i < m.length := by omega
    simp only [scriptoriumref00_EqBytes.l0]
    rw [if_pos (by omega), if_pos (by omega), if_pos (by omega), rd_get l i hil, rd_get m i him, wrap64_id _ (by omega) (by omega)]
    have e : ((i : Int) + 1) = ((i + 1 : Nat) : Int) := by omega
    rw [e, ih k (i + 1) (by omega) (by omega)]
    have e1 := List.drop_eq_getElem_cons hil
    have e2 := List.drop_eq_getElem_cons him
    rw [e1, e2]
    by_cases hx : l[i] = m[i]
    · rw [if_pos hx, hx]
      congr 1
      apply decide_eq_decide.2
      constructor
      · intro h; rw [h]
      · intro h; exact (List.cons.inj h).2
    · rw [if_neg hx]
      have : ¬ (l[i] :: l.drop (i + 1) = m[i] :: m.drop (i + 1)) := fun h => hx (List.cons.inj h).1
      rw [decide_eq_false this]
theorem eqB (k : Nat) (l m : List Int) (hm : l.length ≤ 9223372036854775807) (hk : l.length < k) : scriptoriumref00_EqBytes.f k l m = some (decide (l = m)) := by
  unfold scriptoriumref00_EqBytes.f
  by_cases hl : l.length = m.length
  · rw [if_pos (by omega)]
    have := eqB_l0 l m hl hm l.length k 0 (by omega) hk
    simpa using this
  · rw [if_neg (by omega)]
    have : ¬ l = m := fun e => hl (by rw [e])
    simp [this]

theorem copyB (l : List Int) (h : l.length * 1 ≤ 140737488351232) : scriptoriumref00_CopyBytes.f l = some l := by
  unfold scriptoriumref00_CopyBytes.f
  rw [if_pos (by simp; omega)]
  rfl

theorem sum_ones {α : Type} (l : List α) : (l.map fun _ => 1).sum = l.length := by
  induction l with
  | nil => rfl
  | cons x l ih => rw [List.map_cons, List.sum_cons, ih, List.length_cons]; omega

theorem get_len (l : List (List Int)) (i : Nat) (h : i < l.length) : (l[i]).length ≤ sumLen l := by
  have h1 := sumLen_take l i h
  have h2 := sumLen_le l (i + 1)
  omega
theorem rdL (l : List (List Int)) (i : Nat) (h : i < l.length) : rd_L1 l (i : Int) = l[i] := by
  simp [rd_L1, List.getD_eq_getElem?_getD, List.getElem?_eq_getElem h]
theorem bulk_len (l : List (List Int)) : (l.map fun y => (y.map fun _ => 1).sum + 1).sum = sumLen l + l.length := by
  unfold sumLen
  induction l with
  | nil => rfl
  | cons x l ih => rw [List.map_cons, List.sum_cons, ih, sum_ones, List.map_cons, List.sum_cons, List.length_cons]; omega

theorem join_l2 (l : List (List Int)) (hS : sumLen l + l.length ≤ 1048576) (x : List Int) (hx : 0 < x.length) : ∀ (d k i : Nat), i + d = l.length → d + sumLen l + 300 < k →
    scriptoriumlaw01_QuillJoin.l2 k l l x (i : Int) = some true := by
  intro d
  induction d with
  | zero =>
    intro k i h1 hk
    obtain ⟨k, rfl⟩ : ∃ j, k = j + 1 := ⟨k - 1, by omega⟩
    simp only [scriptoriumlaw01_QuillJoin.l2]
    have e0 : scriptoriumlaw01_works.f = some true := rfl
    rw [if_neg (by omega), if_pos (by omega), e0]
    rfl
  | succ d ih =>
    intro k i h1 hk
    obtain ⟨k, rfl⟩ : ∃ j, k = j + 1 := ⟨k - 1, by omega⟩
    have hi : i < l.length := by omega
    have hl := get_len l i hi
    simp only [scriptoriumlaw01_QuillJoin.l2]
    have hw : wrap64 ((i : Int) + 1) = ((i + 1 : Nat) : Int) := by unfold wrap64; omega
    rw [if_pos (by omega), if_pos (by omega), if_pos (by omega), rdL l i hi, eqB k _ _ (by omega) (by omega), decide_eq_true rfl, hw]
    exact ih k (i + 1) (by omega) (by omega)
theorem join_l1 (l : List (List Int)) (hS : sumLen l + l.length ≤ 1048576) : ∀ (d k i : Nat) (x : List Int), i + d = x.length → x.length ≤ 1048576 → d + l.length + sumLen l + 600 < k →
    scriptoriumlaw01_QuillJoin.l1 k l l x (i : Int) = some true := by
  intro d
  induction d with
  | zero =>
    intro k i x h1 hx hk
    obtain ⟨k, rfl⟩ : ∃ j, k = j + 1 := ⟨k - 1, by omega⟩
    simp only [scriptoriumlaw01_QuillJoin.l1]
    rw [if_neg (by omega), if_pos (by omega)]
    exact join_l2 l hS (x ++ [7]) (by simp) l.length k 0 (by omega) (by omega)
  | succ d ih =>
    intro k i x h1 hx hk
    obtain ⟨k, rfl⟩ : ∃ j, k = j + 1 := ⟨k - 1, by omega⟩
    simp only [scriptoriumlaw01_QuillJoin.l1]
    have hw : wrap64 ((i : Int) + 1) = ((i + 1 : Nat) : Int) := by unfold wrap64; omega
    rw [if_pos (by omega), if_pos (by omega), hw]
    exact ih k (i + 1) _ (by rw [List.length_set]; omega) (by rw [List.length_set]; omega) (by omega)
theorem refjoin_l0 (l : List (List Int)) (hS : sumLen l + l.length ≤ 1048576) : ∀ (d k i : Nat), i + d = l.length → d < k →
    scriptoriumref01_Join.l0 k l (l.take i).flatten (i : Int) = some l.flatten := by
  intro d
  induction d with
  | zero =>
    intro k i h1 hk
    obtain ⟨k, rfl⟩ : ∃ j, k = j + 1 := ⟨k - 1, by omega⟩
    obtain rfl : i = l.length := by omega
    simp only [scriptoriumref01_Join.l0]
    rw [if_neg (by omega), List.take_length]
  | succ d ih =>
    intro k i h1 hk
    obtain ⟨k, rfl⟩ : ∃ j, k = j + 1 := ⟨k - 1, by omega⟩
    have hi : i < l.length := by omega
    have hl := get_len l i hi
    have h2 := flatten_len (l.take i)
    have h3 := sumLen_le l i
    simp only [scriptoriumref01_Join.l0]
    have hw : wrap64 ((i : Int) + 1) = ((i + 1 : Nat) : Int) := by unfold wrap64; omega
    rw [if_pos (by omega), if_pos (by omega), rdL l i hi, if_pos (by omega), hw, ← flatten_take l i hi]
    exact ih k (i + 1) (by omega) (by omega)
theorem join_l0 (l : List (List Int)) (hS : sumLen l + l.length ≤ 1048576) : ∀ (d k i : Nat), i + d = l.length → d + 3 * l.length + 4 * sumLen l + 900 < k →
    scriptoriumlaw01_QuillJoin.l0 k l (l.take i) (i : Int) = some true := by
  intro d
  induction d with
  | zero =>
    intro k i h1 hk
    obtain ⟨k, rfl⟩ : ∃ j, k = j + 1 := ⟨k - 1, by omega⟩
    obtain rfl : i = l.length := by omega
    simp only [scriptoriumlaw01_QuillJoin.l0]
    have hf := flatten_len l
    have ej : quill_Join.f l = some l.flatten := by
      unfold quill_Join.f slices_Concat_byte_byte.f
      rw [if_pos (by omega)]
      rfl
    have er : scriptoriumref01_Join.f k l = some l.flatten := refjoin_l0 l hS l.length k 0 (by omega) (by omega)
    rw [if_neg (by omega), List.take_length, ej, er]
    simp only [Option.bind_some]
    rw [eqB k _ _ (by omega) (by omega), decide_eq_true rfl]
    simp only [Option.bind_some, if_true]
    exact join_l1 l hS _ k 0 l.flatten (Nat.zero_add _) (by omega) (by omega)
  | succ d ih =>
    intro k i h1 hk
    obtain ⟨k, rfl⟩ : ∃ j, k = j + 1 := ⟨k - 1, by omega⟩
    have hi : i < l.length := by omega
    have hl := get_len l i hi
    have ht : (l.take i).length = i := by rw [List.length_take]; omega
    simp only [scriptoriumlaw01_QuillJoin.l0]
    have hw : wrap64 ((i : Int) + 1) = ((i + 1 : Nat) : Int) := by unfold wrap64; omega
    rw [if_pos (by omega), if_pos (by omega), rdL l i hi, copyB _ (by omega)]
    simp only [Option.bind_some]
    rw [if_pos (by omega), hw, ← List.take_succ_eq_append_getElem hi]
    exact ih k (i + 1) (by omega) (by omega)
theorem QuillJoin : scriptoriumlaw01_QuillJoin.Pure := by
  intro l hl hb
  have hS : sumLen l + l.length ≤ 1048576 := by
    have e := bulk_len l
    rw [e] at hb
    omega
  obtain ⟨K, hK⟩ : ∃ K, K = 4 * l.length + 4 * sumLen l + 1000 := ⟨_, rfl⟩
  exact ⟨K, join_l0 l hS l.length K 0 (by omega) (by omega)⟩

end Go.Proofs.Ytclbcmblgbinpaa.Pure
