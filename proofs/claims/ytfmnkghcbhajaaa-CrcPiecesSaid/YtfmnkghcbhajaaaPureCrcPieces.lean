/- Bytes that come in two pieces have the sum of all; no bytes change no sum: the law CrcPieces, its pure statement. -/
import Derived.Test.YtfmnkghcbhajaaaPCrcPiecesx
set_option linter.unusedVariables false
set_option linter.unusedSimpArgs false
namespace Go.Proofs.Ytfmnkghcbhajaaa.Pure
open Go.RowKit Go.Proofs.Ytfmnkghcbhajaaa.PCrcPieces Go.Proofs.YtfmnkghcbhajaaaW.PrintWords Go.Proofs.YtfmnkghcbhajaaaW.PrintLast Go.Proofs.YtfmnkghcbhajaaaW.PrintMore
theorem copyB (l : List Int) (h : l.length * 1 ≤ 140737488351232) : scriptoriumref00_CopyBytes.f l = some l := by
  unfold scriptoriumref00_CopyBytes.f
  rw [if_pos (by simp; omega)]
  rfl

theorem wf_bytes {l : List Int} (h : ∀ x ∈ l, (Lit.int .u8 x).wf = true) : Bytes l := by
  intro x hx
  have := h x hx
  simp only [Lit.wf, Bool.and_eq_true, decide_eq_true_eq] at this
  have hmin : IntKind.u8.min = 0 := rfl
  have hmax : IntKind.u8.max = 255 := rfl
  omega
theorem wf_u32 {x : Int} (h : (Lit.int .u32 x).wf = true) : 0 ≤ x ∧ x < 4294967296 := by
  simp only [Lit.wf, Bool.and_eq_true, decide_eq_true_eq] at h
  have hmin : IntKind.u32.min = 0 := rfl
  have hmax : IntKind.u32.max = 4294967295 := rfl
  omega
theorem wf_i64 {x : Int} (h : (Lit.int .i64 x).wf = true) : -9223372036854775808 ≤ x ∧ x < 9223372036854775808 := by
  simp only [Lit.wf, Bool.and_eq_true, decide_eq_true_eq] at h
  have hmin : IntKind.i64.min = -9223372036854775808 := rfl
  have hmax : IntKind.i64.max = 9223372036854775807 := rfl
  omega
theorem wf_u8 {x : Int} (h : (Lit.int .u8 x).wf = true) : 0 ≤ x ∧ x < 256 := by
  simp only [Lit.wf, Bool.and_eq_true, decide_eq_true_eq] at h
  have hmin : IntKind.u8.min = 0 := rfl
  have hmax : IntKind.u8.max = 255 := rfl
  omega

theorem mn_nat (n : Nat) : mn (n : Int) 4000 = ((min n 4000 : Nat) : Int) := by unfold mn; omega
theorem add_append (s : Int) (a b : List Int) (h0 : 0 ≤ s) (h1 : s < 4294967296) (ha : Bytes a) (hb : Bytes b) : crcAdd (crcAdd s a) b = crcAdd s (a ++ b) := by
  have hab : Bytes (a ++ b) := fun x hx => (List.mem_append.1 hx).elim (ha x) (hb x)
  have hw : ws (a ++ b) = ws a ++ ws b := List.map_append ..
  rw [crcAdd_eq s a h0 h1 ha, crcAdd_n32 _ b hb, crcAdd_eq s _ h0 h1 hab, hw, bfold_append, BitVec.not_not]
theorem Bytes_take (l : List Int) (n : Nat) (h : Bytes l) : Bytes (l.take n) := fun x hx => h x (List.mem_of_mem_take hx)
theorem CrcPieces : scriptoriumlaw03_CrcPieces.Pure := by
  intro a b s hm hl hw hm2 hl2 hw2 hs
  have ha := wf_bytes hw
  have hb := wf_bytes hw2
  have hs := wf_u32 hs
  unfold scriptoriumlaw03_CrcPieces.f
  have e0 : scriptoriumlaw03_works.f = some true := rfl
  have e1 : ∀ x, crc_Of.f x = some (crcAdd 0 x) := fun _ => rfl
  have e2 : ∀ s x, crc_Add.f s x = some (crcAdd s x) := fun _ _ => rfl
  rw [e0]
  simp only [Option.bind_some, e1, e2, if_true, mn_nat, Int.toNat_natCast]
  rw [if_pos (by omega), if_pos (by omega), if_pos (by omega), if_pos (by omega)]
  have la : (a.take (min a.length 4000)).length * 1 ≤ 140737488351232 := by rw [List.length_take]; omega
  have lb : (b.take (min b.length 4000)).length ≤ 4000 := by rw [List.length_take]; omega
  have la2 : (a.take (min a.length 4000)).length ≤ 4000 := by rw [List.length_take]; omega
  rw [copyB _ la]
  simp only [Option.bind_some]
  rw [if_pos (by omega)]
  have ha' := Bytes_take a (min a.length 4000) ha
  have hb' := Bytes_take b (min b.length 4000) hb
  rw [add_append 0 _ _ (by omega) (by omega) ha' hb', add_append s _ _ hs.1 hs.2 ha' hb']
  simp only [if_true]
  have hn : crcAdd s [] = s := by
    rw [crcAdd_eq s [] hs.1 hs.2 (fun x hx => by cases hx)]
    show n32 (~~~ (~~~ (w32 s))) = s
    rw [BitVec.not_not, n32_w32 s hs.1 hs.2]
  rw [hn, beq_self_eq_true]

end Go.Proofs.Ytfmnkghcbhajaaa.Pure
