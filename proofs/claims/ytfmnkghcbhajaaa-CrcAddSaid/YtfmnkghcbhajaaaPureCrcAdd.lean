/- Add answers as the document's way says, for all sums and bytes: the law CrcAdd, its pure statement. -/
import Derived.Test.YtfmnkghcbhajaaaPCrcAddx1
set_option linter.unusedVariables false
set_option linter.unusedSimpArgs false
namespace Go.Proofs.Ytfmnkghcbhajaaa.Pure
open Go.RowKit Go.Proofs.Ytfmnkghcbhajaaa.PCrcAdd Go.Proofs.YtfmnkghcbhajaaaW.PrintWords Go.Proofs.YtfmnkghcbhajaaaW.PrintLast Go.Proofs.YtfmnkghcbhajaaaW.PrintMore
theorem wrap64_id (x : Int) (h0 : -9223372036854775808 ≤ x) (h1 : x < 9223372036854775808) : wrap64 x = x := by unfold wrap64; omega
theorem rd_get (l : List Int) (i : Nat) (h : i < l.length) : rd l (i : Int) = l[i] := by
  simp [rd, List.getD_eq_getElem?_getD, List.getElem?_eq_getElem h]
theorem eqB_l0 (l m : List Int) (hl : l.length = m.length) (hm : l.length ≤ 9223372036854775807) : ∀ (d k i : Nat), i + d = l.length → d < k →
    scriptoriumref00_EqBytes.l0 k l m (i : Int) = some (decide (l.drop i = m.drop i)) := by
  intro d
  induction d with
  | zero =>
    intro k i h1 hk
    obtain ⟨k, rfl⟩ : ∃ j, k = j + 1 := ⟨k - 1, by omega⟩
    simp only [scriptoriumref00_EqBytes.l0]
    rw [if_neg (by omega), List.drop_of_length_le (by omega), List.drop_of_length_le (by omega)]
    simp
  | succ d ih =>
    intro k i h1 hk
    obtain ⟨k, rfl⟩ : ∃ j, k = j + 1 := ⟨k - 1, by omega⟩
    have hil : i < l.length := by omega
    have him : i < m.length := by omega
    simp only [scriptoriumref00_EqBytes.l0]
    rw [if_pos (by omega), if_pos (by omega), if_pos (by omega), rd_get l i hil, rd_get m i him, wrap64_id _ (by omega) (by omega)]
    have e : ((i : Int) + 1) = ((i + 1 : Nat) : Int) := by omega
    rw [e, ih k (i + 1) (by omega) (by omega)]
    have e1 := List.drop_eq_getElem_cons hil
    have e2 := List.drop_eq_getElem_cons him
    rw [e1, e2]
    by_cases hx : l[i] = m[i]
    · rw [if_pos hx, hx]
      congr 1
      apply decide_eq_decide.2
      constructor
      · intro h; rw [h]
      · intro h; exact (List.cons.inj h).2
    · rw [if_neg hx]
      have : ¬ (l[i] :: l.drop (i + 1) = m[i] :: m.drop (i + 1)) := fun h => hx (List.cons.inj h).1
      rw [decide_eq_false this]
theorem eqB (k : Nat) (l m : List Int) (hm : l.length ≤ 9223372036854775807) (hk : l.length < k) : scriptoriumref00_EqBytes.f k l m = some (decide (l = m)) := by
  unfold scriptoriumref00_EqBytes.f
  by_cases hl : l.length = m.length
  · rw [if_pos (by omega)]
    have := eqB_l0 l m hl hm l.length k 0 (by omega) hk
    simpa using this
  · rw [if_neg (by omega)]
    have : ¬ l = m := fun e => hl (by rw [e])
    simp [this]

theorem copyB (l : List Int) (h : l.length * 1 ≤ 140737488351232) : scriptoriumref00_CopyBytes.f l = some l := by
  unfold scriptoriumref00_CopyBytes.f
  rw [if_pos (by simp; omega)]
  rfl

theorem wf_bytes {l : List Int} (h : ∀ x ∈ l, (Lit.int .u8 x).wf = true) : Bytes l := by
  intro x hx
  have := h x hx
  simp only [Lit.wf, Bool.and_eq_true, decide_eq_true_eq] at this
  have hmin : IntKind.u8.min = 0 := rfl
  have hmax : IntKind.u8.max = 255 := rfl
  omega
theorem wf_u32 {x : Int} (h : (Lit.int .u32 x).wf = true) : 0 ≤ x ∧ x < 4294967296 := by
  simp only [Lit.wf, Bool.and_eq_true, decide_eq_true_eq] at h
  have hmin : IntKind.u32.min = 0 := rfl
  have hmax : IntKind.u32.max = 4294967295 := rfl
  omega
theorem wf_i64 {x : Int} (h : (Lit.int .i64 x).wf = true) : -9223372036854775808 ≤ x ∧ x < 9223372036854775808 := by
  simp only [Lit.wf, Bool.and_eq_true, decide_eq_true_eq] at h
  have hmin : IntKind.i64.min = -9223372036854775808 := rfl
  have hmax : IntKind.i64.max = 9223372036854775807 := rfl
  omega
theorem wf_u8 {x : Int} (h : (Lit.int .u8 x).wf = true) : 0 ≤ x ∧ x < 256 := by
  simp only [Lit.wf, Bool.and_eq_true, decide_eq_true_eq] at h
  have hmin : IntKind.u8.min = 0 := rfl
  have hmax : IntKind.u8.max = 255 := rfl
  omega

theorem ref_step (v : BitVec 32) : (if n32 v / 2147483648 = 1 then Go.bits .xor .u32 ((n32 v * 2) % 4294967296) 79764919 else (n32 v * 2) % 4294967296) = n32 (bstep v) := by
  have hs := crcStep_n32 v
  unfold crcStep at hs
  rw [← hs]
  have hm : (n32 v / 2147483648 = 1) ↔ v.msb = true := by
    have := n32_bd v
    rw [BitVec.msb_eq_true_iff_two_mul_ge]
    unfold n32 at *
    omega
  by_cases h : v.msb = true
  · rw [if_pos (hm.2 h), if_neg (by rw [top_zero]; simp [h])]
  · rw [if_neg (fun e => h (hm.1 e)), if_pos (by rw [top_zero]; simpa using h)]
theorem ref_take_l0 : ∀ (d k i : Nat) (v : BitVec 32), i + d = 8 → d < k → scriptoriumref03_take.l0 k (n32 v) (i : Int) = some (n32 (bsteps d v)) := by
  intro d
  induction d with
  | zero =>
    intro k i v h1 hk
    obtain ⟨k, rfl⟩ : ∃ j, k = j + 1 := ⟨k - 1, by omega⟩
    simp only [scriptoriumref03_take.l0]
    rw [if_neg (by omega)]
    rfl
  | succ d ih =>
    intro k i v h1 hk
    obtain ⟨k, rfl⟩ : ∃ j, k = j + 1 := ⟨k - 1, by omega⟩
    have hs := ref_step v
    simp only [scriptoriumref03_take.l0]
    have e : wrap64 ((i : Int) + 1) = ((i + 1 : Nat) : Int) := by unfold wrap64; omega
    rw [if_pos (by omega), e]
    by_cases h : n32 v / 2147483648 = 1
    · rw [if_pos h] at hs ⊢
      rw [hs, ih k (i + 1) _ (by omega) (by omega)]; rfl
    · rw [if_neg h] at hs ⊢
      rw [hs, ih k (i + 1) _ (by omega) (by omega)]; rfl
theorem ref_take (k : Nat) (v : BitVec 32) (c : Int) (h0 : 0 ≤ c) (h1 : c < 256) (hk : 8 < k) : scriptoriumref03_take.f k (n32 v) c = some (n32 (btake v (w8 c))) := by
  unfold scriptoriumref03_take.f
  have e : (c % 4294967296 * 16777216) % 4294967296 = n32 (up (w8 c)) := by
    have := n32_up (w8 c)
    rwa [n8_w8 c h0 h1] at this
  rw [e, xor32, w32_n32, w32_n32]
  exact ref_take_l0 8 k 0 _ rfl hk
theorem ref_Add_l0 (l : List Int) (hb : Bytes l) (hm : l.length ≤ 9223372036854775807) : ∀ (d k i : Nat) (v : BitVec 32), i + d = l.length → d + 9 < k →
    scriptoriumref03_Add.l0 k (n32 v) l (i : Int) = some (n32 (~~~ (bfold v (ws (l.drop i))))) := by
  intro d
  induction d with
  | zero =>
    intro k i v h1 hk
    obtain ⟨k, rfl⟩ : ∃ j, k = j + 1 := ⟨k - 1, by omega⟩
    simp only [scriptoriumref03_Add.l0]
    rw [if_neg (by omega), compl32, List.drop_of_length_le (by omega)]
    rfl
  | succ d ih =>
    intro k i v h1 hk
    obtain ⟨k, rfl⟩ : ∃ j, k = j + 1 := ⟨k - 1, by omega⟩
    have hil : i < l.length := by omega
    have hbi := hb l[i] (List.getElem_mem hil)
    simp only [scriptoriumref03_Add.l0]
    have e : wrap64 ((i : Int) + 1) = ((i + 1 : Nat) : Int) := by unfold wrap64; omega
    rw [if_pos (by omega), if_pos (by omega), rd_get l i hil, ref_take k v _ hbi.1 hbi.2 (by omega), e]
    simp only [Option.bind_some]
    rw [ih k (i + 1) _ (by omega) (by omega), List.drop_eq_getElem_cons hil]
    rfl
theorem ref_Add (k : Nat) (s : Int) (l : List Int) (h0 : 0 ≤ s) (h1 : s < 4294967296) (hb : Bytes l) (hm : l.length ≤ 9223372036854775807) (hk : l.length + 9 < k) :
    scriptoriumref03_Add.f k s l = some (crcAdd s l) := by
  unfold scriptoriumref03_Add.f
  rw [crcAdd_eq s l h0 h1 hb]
  have hs := n32_w32 s h0 h1
  rw [← hs, compl32, hs]
  have := ref_Add_l0 l hb hm l.length k 0 (~~~ (w32 s)) (by omega) hk
  simpa using this

theorem CrcAdd : scriptoriumlaw03_CrcAdd.Pure := by
  intro s l hs hm hl hw
  have hb := wf_bytes hw
  have hs := wf_u32 hs
  have hm' : l.length ≤ 9223372036854775807 := by omega
  refine ⟨l.length + 10, ?_⟩
  unfold scriptoriumlaw03_CrcAdd.f
  rw [copyB l hl]
  simp only [Option.bind_some]
  have e1 : crc_Add.f s l = some (crcAdd s l) := rfl
  rw [e1, ref_Add _ s l hs.1 hs.2 hb hm' (by omega)]
  simp only [Option.bind_some, if_true]
  rw [eqB _ l l hm' (by omega)]
  simp only [Option.bind_some, decide_true, if_true]
  rfl

end Go.Proofs.Ytfmnkghcbhajaaa.Pure
