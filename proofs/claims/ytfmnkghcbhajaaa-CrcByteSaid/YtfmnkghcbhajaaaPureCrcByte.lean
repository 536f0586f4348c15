/- Of bytes of which one is another one the sum is another one: the law CrcByte, its pure statement. -/
import Derived.Test.YtfmnkghcbhajaaaPCrcBytex1
set_option linter.unusedVariables false
set_option linter.unusedSimpArgs false
namespace Go.Proofs.Ytfmnkghcbhajaaa.Pure
open Go.RowKit Go.Proofs.Ytfmnkghcbhajaaa.PCrcByte Go.Proofs.YtfmnkghcbhajaaaW.PrintWords Go.Proofs.YtfmnkghcbhajaaaW.PrintLast Go.Proofs.YtfmnkghcbhajaaaW.PrintMore
theorem rd_get (l : List Int) (i : Nat) (h : i < l.length) : rd l (i : Int) = l[i] := by
  simp [rd, List.getD_eq_getElem?_getD, List.getElem?_eq_getElem h]

theorem copyB (l : List Int) (h : l.length * 1 ≤ 140737488351232) : scriptoriumref00_CopyBytes.f l = some l := by
  unfold scriptoriumref00_CopyBytes.f
  rw [if_pos (by simp; omega)]
  rfl

theorem wf_bytes {l : List Int} (h : ∀ x ∈ l, (Lit.int .u8 x).wf = true) : Bytes l := by
  intro x hx
  have := h x hx
  simp only [Lit.wf, Bool.and_eq_true, decide_eq_true_eq] at this
  have hmin : IntKind.u8.min = 0 := rfl
  have hmax : IntKind.u8.max = 255 := rfl
  omega
theorem wf_u32 {x : Int} (h : (Lit.int .u32 x).wf = true) : 0 ≤ x ∧ x < 4294967296 := by
  simp only [Lit.wf, Bool.and_eq_true, decide_eq_true_eq] at h
  have hmin : IntKind.u32.min = 0 := rfl
  have hmax : IntKind.u32.max = 4294967295 := rfl
  omega
theorem wf_i64 {x : Int} (h : (Lit.int .i64 x).wf = true) : -9223372036854775808 ≤ x ∧ x < 9223372036854775808 := by
  simp only [Lit.wf, Bool.and_eq_true, decide_eq_true_eq] at h
  have hmin : IntKind.i64.min = -9223372036854775808 := rfl
  have hmax : IntKind.i64.max = 9223372036854775807 := rfl
  omega
theorem wf_u8 {x : Int} (h : (Lit.int .u8 x).wf = true) : 0 ≤ x ∧ x < 256 := by
  simp only [Lit.wf, Bool.and_eq_true, decide_eq_true_eq] at h
  have hmin : IntKind.u8.min = 0 := rfl
  have hmax : IntKind.u8.max = 255 := rfl
  omega

theorem bring_some (a n : Int) (h : 0 < n) (hn : n ≤ 4611686018427387904) : ∃ r, scriptoriumref00_Bring.f a n = some r ∧ 0 ≤ r ∧ r < n := by
  unfold scriptoriumref00_Bring.f
  have h1 := Int.tmod_lt_of_pos a h
  have h2 : -n < Int.tmod a n := by
    have := Int.lt_tmod_of_pos a h
    omega
  rw [if_neg (by omega), if_neg (by omega)]
  by_cases h3 : Int.tmod a n < 0
  · rw [if_pos h3]
    refine ⟨_, rfl, ?_⟩
    have : RowKit.wrap64 (Int.tmod a n + n) = Int.tmod a n + n := by unfold RowKit.wrap64; omega
    rw [this]
    omega
  · rw [if_neg h3]
    exact ⟨_, rfl, by omega, by omega⟩

theorem ws_set (l : List Int) (i : Nat) (x : Int) : ws (l.set i x) = (ws l).set i (w8 x) := by
  unfold ws; rw [List.map_set]
theorem Bytes_set (l : List Int) (i : Nat) (x : Int) (h : Bytes l) (hx : 0 ≤ x ∧ x < 256) : Bytes (l.set i x) := by
  intro y hy
  rcases List.mem_or_eq_of_mem_set hy with h1 | rfl
  · exact h y h1
  · exact hx
theorem CrcByte : scriptoriumlaw03_CrcByte.Pure := by
  intro l a by_ hm hl hw ha hby
  have hb := wf_bytes hw
  have hby := wf_u8 hby
  unfold scriptoriumlaw03_CrcByte.f
  have e0 : scriptoriumlaw03_works.f = some true := rfl
  have e1 : ∀ x, crc_Of.f x = some (crcAdd 0 x) := fun _ => rfl
  rw [e0]
  simp only [Option.bind_some, e1, if_true]
  by_cases h0 : (l.length : Int) = 0
  · rw [if_pos h0]
  rw [if_neg h0, copyB l hl]
  simp only [Option.bind_some]
  obtain ⟨r, hr, hr0, hr1⟩ := bring_some a (l.length : Int) (by omega) (by omega)
  rw [hr]
  simp only [Option.bind_some]
  rw [if_pos hr0, if_pos hr1]
  obtain ⟨i, rfl⟩ := Int.eq_ofNat_of_zero_le hr0
  have hi : i < l.length := by omega
  rw [Int.toNat_natCast, rd_get l i hi, xor8]
  have hbd := n8_bd (w8 l[i] ^^^ w8 by_)
  have hbs := Bytes_set l i _ hb hbd
  rw [crcAdd_zero l hb, crcAdd_zero _ hbs, ws_set, w8_n8]
  have hiw : i < (ws l).length := by unfold ws; simpa using hi
  have hg : (ws l)[i] = w8 l[i] := List.getElem_map ..
  have hz : (w8 l[i] ^^^ w8 by_ = (ws l)[i]) ↔ by_ = 0 := by
    rw [hg]
    constructor
    · intro h
      have h2 : w8 by_ = 0#8 := by
        have := congrArg (fun x => w8 l[i] ^^^ x) h
        simpa [← BitVec.xor_assoc] using this
      have h3 := n8_w8 by_ hby.1 hby.2
      rw [h2] at h3
      rw [← h3]; rfl
    · intro h
      subst h
      have : w8 0 = 0#8 := rfl
      rw [this, BitVec.xor_zero]
  have hf := bfold_set (ws l) i hiw (w8 l[i] ^^^ w8 by_) (BitVec.allOnes 32)
  by_cases hz0 : by_ = 0
  · have := hf.2 (hz.2 hz0)
    rw [this, hz0, beq_self_eq_true, beq_self_eq_true]; rfl
  · have hne : ¬ n32 (~~~ bfold (BitVec.allOnes 32) (ws l)) = n32 (~~~ bfold (BitVec.allOnes 32) ((ws l).set i (w8 l[i] ^^^ w8 by_))) := by
      rw [n32_inj, not_inj]
      intro e
      exact hz0 (hz.1 (hf.1 e.symm))
    rw [beq_eq_false_iff_ne.2 hz0, beq_eq_false_iff_ne.2 hne]; rfl

end Go.Proofs.Ytfmnkghcbhajaaa.Pure
