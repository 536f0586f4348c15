/- Unlike sums go on to unlike ones: the law CrcSums, its pure statement. -/
import Derived.Test.YtfmnkghcbhajaaaPCrcSumsx1
set_option linter.unusedVariables false
set_option linter.unusedSimpArgs false
namespace Go.Proofs.Ytfmnkghcbhajaaa.Pure
open Go.RowKit Go.Proofs.Ytfmnkghcbhajaaa.PCrcSums Go.Proofs.YtfmnkghcbhajaaaW.PrintWords Go.Proofs.YtfmnkghcbhajaaaW.PrintLast Go.Proofs.YtfmnkghcbhajaaaW.PrintMore
theorem wf_bytes {l : List Int} (h : ∀ x ∈ l, (Lit.int .u8 x).wf = true) : Bytes l := by
  intro x hx
  have := h x hx
  simp only [Lit.wf, Bool.and_eq_true, decide_eq_true_eq] at this
  have hmin : IntKind.u8.min = 0 := rfl
  have hmax : IntKind.u8.max = 255 := rfl
  omega
theorem wf_u32 {x : Int} (h : (Lit.int .u32 x).wf = true) : 0 ≤ x ∧ x < 4294967296 := by
  simp only [Lit.wf, Bool.and_eq_true, decide_eq_true_eq] at h
  have hmin : IntKind.u32.min = 0 := rfl
  have hmax : IntKind.u32.max = 4294967295 := rfl
  omega
theorem wf_i64 {x : Int} (h : (Lit.int .i64 x).wf = true) : -9223372036854775808 ≤ x ∧ x < 9223372036854775808 := by
  simp only [Lit.wf, Bool.and_eq_true, decide_eq_true_eq] at h
  have hmin : IntKind.i64.min = -9223372036854775808 := rfl
  have hmax : IntKind.i64.max = 9223372036854775807 := rfl
  omega
theorem wf_u8 {x : Int} (h : (Lit.int .u8 x).wf = true) : 0 ≤ x ∧ x < 256 := by
  simp only [Lit.wf, Bool.and_eq_true, decide_eq_true_eq] at h
  have hmin : IntKind.u8.min = 0 := rfl
  have hmax : IntKind.u8.max = 255 := rfl
  omega

theorem CrcSums : scriptoriumlaw03_CrcSums.Pure := by
  intro s t l hs ht hm hl hw
  have hb := wf_bytes hw
  have hs := wf_u32 hs
  have ht := wf_u32 ht
  unfold scriptoriumlaw03_CrcSums.f
  have e0 : scriptoriumlaw03_works.f = some true := rfl
  have e1 : ∀ x, crc_Add.f x l = some (crcAdd x l) := fun _ => rfl
  rw [e0]
  simp only [Option.bind_some, e1, if_true]
  have h : (crcAdd s l = crcAdd t l) ↔ s = t := by
    rw [crcAdd_eq s l hs.1 hs.2 hb, crcAdd_eq t l ht.1 ht.2 hb, n32_inj, not_inj, bfold_inj, not_inj]
    constructor
    · intro h
      rw [← n32_w32 s hs.1 hs.2, ← n32_w32 t ht.1 ht.2, h]
    · rintro rfl; rfl
  by_cases hst : s = t
  · rw [hst, beq_self_eq_true, beq_self_eq_true]; rfl
  · have hne : ¬ crcAdd s l = crcAdd t l := fun e => hst (h.1 e)
    rw [beq_eq_false_iff_ne.2 hst, beq_eq_false_iff_ne.2 hne]; rfl

end Go.Proofs.Ytfmnkghcbhajaaa.Pure
