/- Of two that are as long the exclusive or of their sums is that of the sums of their exclusive or, and of as many noughts: the law CrcXor, its pure statement. -/
import Derived.Test.YtfmnkghcbhajaaaPCrcXorx
set_option linter.unusedVariables false
set_option linter.unusedSimpArgs false
namespace Go.Proofs.Ytfmnkghcbhajaaa.Pure
open Go.RowKit Go.Proofs.Ytfmnkghcbhajaaa.PCrcXor Go.Proofs.YtfmnkghcbhajaaaW.PrintWords Go.Proofs.YtfmnkghcbhajaaaW.PrintLast Go.Proofs.YtfmnkghcbhajaaaW.PrintMore
theorem rd_get (l : List Int) (i : Nat) (h : i < l.length) : rd l (i : Int) = l[i] := by
  simp [rd, List.getD_eq_getElem?_getD, List.getElem?_eq_getElem h]

theorem wf_bytes {l : List Int} (h : ∀ x ∈ l, (Lit.int .u8 x).wf = true) : Bytes l := by
  intro x hx
  have := h x hx
  simp only [Lit.wf, Bool.and_eq_true, decide_eq_true_eq] at this
  have hmin : IntKind.u8.min = 0 := rfl
  have hmax : IntKind.u8.max = 255 := rfl
  omega
theorem wf_u32 {x : Int} (h : (Lit.int .u32 x).wf = true) : 0 ≤ x ∧ x < 4294967296 := by
  simp only [Lit.wf, Bool.and_eq_true, decide_eq_true_eq] at h
  have hmin : IntKind.u32.min = 0 := rfl
  have hmax : IntKind.u32.max = 4294967295 := rfl
  omega
theorem wf_i64 {x : Int} (h : (Lit.int .i64 x).wf = true) : -9223372036854775808 ≤ x ∧ x < 9223372036854775808 := by
  simp only [Lit.wf, Bool.and_eq_true, decide_eq_true_eq] at h
  have hmin : IntKind.i64.min = -9223372036854775808 := rfl
  have hmax : IntKind.i64.max = 9223372036854775807 := rfl
  omega
theorem wf_u8 {x : Int} (h : (Lit.int .u8 x).wf = true) : 0 ≤ x ∧ x < 256 := by
  simp only [Lit.wf, Bool.and_eq_true, decide_eq_true_eq] at h
  have hmin : IntKind.u8.min = 0 := rfl
  have hmax : IntKind.u8.max = 255 := rfl
  omega

theorem not_xor_not (x y : BitVec 32) : ~~~x ^^^ ~~~y = x ^^^ y := by
  ext i hi
  simp only [BitVec.getElem_xor, BitVec.getElem_not]
  cases x[i] <;> cases y[i] <;> rfl
theorem Bytes_take (l : List Int) (n : Nat) (h : Bytes l) : Bytes (l.take n) := fun x hx => h x (List.mem_of_mem_take hx)
theorem Bytes_set (l : List Int) (i : Nat) (x : Int) (h : Bytes l) (hx : 0 ≤ x ∧ x < 256) : Bytes (l.set i x) := by
  intro y hy
  rcases List.mem_or_eq_of_mem_set hy with h1 | rfl
  · exact h y h1
  · exact hx
theorem ws_get (l : List Int) (i : Nat) (h : i < l.length) {h' : i < (ws l).length} : (ws l)[i]'h' = w8 l[i] := List.getElem_map ..
theorem zip_zero (l : List (BitVec 8)) (n : Nat) (h : l.length = n) : List.zipWith (· ^^^ ·) l (List.replicate n 0#8) = l := by
  subst h
  induction l with
  | nil => rfl
  | cons a l ih => rw [List.length_cons, List.replicate_succ, List.zipWith_cons_cons, ih, BitVec.xor_zero]
theorem xor_end (A B X Z : List Int) (hA : Bytes A) (hB : Bytes B) (hX : Bytes X) (hZ : Bytes Z) (n : Nat) (lA : A.length = n) (lB : B.length = n) (lX : X.length = n)
    (hz : ws Z = List.replicate n 0#8) (hx : ws X = List.zipWith (· ^^^ ·) (ws A) (ws B)) :
    Go.bits .xor .u32 (crcAdd 0 A) (crcAdd 0 B) = Go.bits .xor .u32 (crcAdd 0 X) (crcAdd 0 Z) := by
  have e : ∀ l : List Int, (ws l).length = l.length := fun l => List.length_map ..
  rw [crcAdd_zero A hA, crcAdd_zero B hB, crcAdd_zero X hX, crcAdd_zero Z hZ, xor32, xor32, w32_n32, w32_n32, w32_n32, w32_n32, not_xor_not, not_xor_not,
    ← bfold_xor (ws A) (ws B) _ _ (by rw [e, e, lA, lB]), ← bfold_xor (ws X) (ws Z) _ _ (by rw [hz, e, lX, List.length_replicate]), hz, zip_zero _ n (by rw [e, lX]), hx]
theorem xor_loop (a b : List Int) (ha : Bytes a) (hb : Bytes b) (n : Nat) (hn : n ≤ 4000) (hna : n ≤ a.length) (hnb : n ≤ b.length) :
    ∀ (d k i : Nat) (x : List Int), i + d = n → d < k → x.length = n → Bytes x → (∀ j, j < i → ∀ (h : j < x.length) (h1 : j < a.length) (h2 : j < b.length), x[j] = Go.bits .xor .u8 a[j] b[j]) →
      scriptoriumlaw03_CrcXor.l0 k a b (n : Int) x (i : Int) = some true := by
  intro d
  induction d with
  | zero =>
    intro k i x h1 hk hl hx hj
    obtain ⟨k, rfl⟩ : ∃ j, k = j + 1 := ⟨k - 1, by omega⟩
    have hin : i = n := by omega
    subst hin
    have e1 : ∀ x, crc_Of.f x = some (crcAdd 0 x) := fun _ => rfl
    simp only [scriptoriumlaw03_CrcXor.l0, e1, Option.bind_some, Int.toNat_natCast]
    rw [if_neg (by omega), if_pos (by omega), if_pos (by omega), if_pos (by omega), if_pos (by omega)]
    have hz : ws (List.replicate i (0 : Int)) = List.replicate i 0#8 := List.map_replicate ..
    have hZ : Bytes (List.replicate i (0 : Int)) := by
      intro y hy
      rw [(List.mem_replicate.1 hy).2]
      omega
    have hx2 : ws x = List.zipWith (· ^^^ ·) (ws (a.take i)) (ws (b.take i)) := by
      apply List.ext_getElem
      · unfold ws; rw [List.length_zipWith, List.length_map, List.length_map, List.length_map, List.length_take, List.length_take]; omega
      · intro j h1 h2
        have hjx : j < x.length := by unfold ws at h1; rwa [List.length_map] at h1
        rw [List.getElem_zipWith, ws_get _ _ hjx, ws_get _ _ (by rw [List.length_take]; omega), ws_get _ _ (by rw [List.length_take]; omega), hj j (by omega) hjx (by omega) (by omega), xor8, w8_n8, List.getElem_take, List.getElem_take]
    rw [xor_end (a.take i) (b.take i) x (List.replicate i (0 : Int)) (Bytes_take a i ha) (Bytes_take b i hb) hx hZ i (by rw [List.length_take]; omega) (by rw [List.length_take]; omega) hl hz hx2, beq_self_eq_true]
  | succ d ih =>
    intro k i x h1 hk hl hx hj
    obtain ⟨k, rfl⟩ : ∃ j, k = j + 1 := ⟨k - 1, by omega⟩
    simp only [scriptoriumlaw03_CrcXor.l0]
    have w3 : RowKit.wrap64 ((i : Int) + 1) = ((i + 1 : Nat) : Int) := by unfold RowKit.wrap64; omega
    rw [if_pos (by omega), if_pos (by omega), if_pos (by omega), if_pos (by omega), if_pos (by omega), Int.toNat_natCast, rd_get a i (by omega), rd_get b i (by omega), w3]
    refine ih k (i + 1) _ (by omega) (by omega) (by rw [List.length_set]; exact hl) (Bytes_set _ _ _ hx (by rw [xor8]; exact n8_bd _)) ?_
    intro j hji h h1 h2
    by_cases e : i = j
    · subst e
      rw [List.getElem_set_self]
    · rw [List.getElem_set_ne e]
      exact hj j (by omega) _ h1 h2
theorem CrcXor : scriptoriumlaw03_CrcXor.Pure := by
  intro a b hm hl hw hm2 hl2 hw2
  have ha := wf_bytes hw
  have hb := wf_bytes hw2
  obtain ⟨K, hK⟩ : ∃ K, K = 4001 := ⟨_, rfl⟩
  refine ⟨K, ?_⟩
  unfold scriptoriumlaw03_CrcXor.f
  have e0 : scriptoriumlaw03_works.f = some true := rfl
  obtain ⟨n, hn⟩ : ∃ n, n = min (min a.length b.length) 4000 := ⟨_, rfl⟩
  have hmn : mn (mn (a.length : Int) (b.length : Int)) 4000 = (n : Int) := by unfold mn; omega
  rw [e0]
  simp only [Option.bind_some, if_true, hmn, Int.toNat_natCast]
  rw [if_pos (by omega), if_pos (by omega)]
  have h := xor_loop a b ha hb n (by omega) (by omega) (by omega) n K 0 (List.replicate n 0) (by omega) (by omega) (List.length_replicate ..) (by intro y hy; rw [(List.mem_replicate.1 hy).2]; omega) (fun j hj => by omega)
  rw [show ((0 : Nat) : Int) = 0 from rfl] at h
  exact h

end Go.Proofs.Ytfmnkghcbhajaaa.Pure
