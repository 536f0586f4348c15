/- If some bits are turned, all within 32 that stand one behind the other, the sum is another one: the law CrcTurned, its pure statement. -/
import Derived.Test.YtfmnkghcbhajaaaPCrcTurnedx
set_option linter.unusedVariables false
set_option linter.unusedSimpArgs false
namespace Go.Proofs.Ytfmnkghcbhajaaa.Pure
open Go.RowKit Go.Proofs.Ytfmnkghcbhajaaa.PCrcTurned Go.Proofs.YtfmnkghcbhajaaaW.PrintWords Go.Proofs.YtfmnkghcbhajaaaW.PrintLast Go.Proofs.YtfmnkghcbhajaaaW.PrintMore
theorem rd_get (l : List Int) (i : Nat) (h : i < l.length) : rd l (i : Int) = l[i] := by
  simp [rd, List.getD_eq_getElem?_getD, List.getElem?_eq_getElem h]

theorem copyB (l : List Int) (h : l.length * 1 ≤ 140737488351232) : scriptoriumref00_CopyBytes.f l = some l := by
  unfold scriptoriumref00_CopyBytes.f
  rw [if_pos (by simp; omega)]
  rfl

theorem wf_bytes {l : List Int} (h : ∀ x ∈ l, (Lit.int .u8 x).wf = true) : Bytes l := by
  intro x hx
  have := h x hx
  simp only [Lit.wf, Bool.and_eq_true, decide_eq_true_eq] at this
  have hmin : IntKind.u8.min = 0 := rfl
  have hmax : IntKind.u8.max = 255 := rfl
  omega
theorem wf_u32 {x : Int} (h : (Lit.int .u32 x).wf = true) : 0 ≤ x ∧ x < 4294967296 := by
  simp only [Lit.wf, Bool.and_eq_true, decide_eq_true_eq] at h
  have hmin : IntKind.u32.min = 0 := rfl
  have hmax : IntKind.u32.max = 4294967295 := rfl
  omega
theorem wf_i64 {x : Int} (h : (Lit.int .i64 x).wf = true) : -9223372036854775808 ≤ x ∧ x < 9223372036854775808 := by
  simp only [Lit.wf, Bool.and_eq_true, decide_eq_true_eq] at h
  have hmin : IntKind.i64.min = -9223372036854775808 := rfl
  have hmax : IntKind.i64.max = 9223372036854775807 := rfl
  omega
theorem wf_u8 {x : Int} (h : (Lit.int .u8 x).wf = true) : 0 ≤ x ∧ x < 256 := by
  simp only [Lit.wf, Bool.and_eq_true, decide_eq_true_eq] at h
  have hmin : IntKind.u8.min = 0 := rfl
  have hmax : IntKind.u8.max = 255 := rfl
  omega

theorem bring_some (a n : Int) (h : 0 < n) (hn : n ≤ 4611686018427387904) : ∃ r, scriptoriumref00_Bring.f a n = some r ∧ 0 ≤ r ∧ r < n := by
  unfold scriptoriumref00_Bring.f
  have h1 := Int.tmod_lt_of_pos a h
  have h2 : -n < Int.tmod a n := by
    have := Int.lt_tmod_of_pos a h
    omega
  rw [if_neg (by omega), if_neg (by omega)]
  by_cases h3 : Int.tmod a n < 0
  · rw [if_pos h3]
    refine ⟨_, rfl, ?_⟩
    have : RowKit.wrap64 (Int.tmod a n + n) = Int.tmod a n + n := by unfold RowKit.wrap64; omega
    rw [this]
    omega
  · rw [if_neg h3]
    exact ⟨_, rfl, by omega, by omega⟩

def topw : BitVec 32 := 1#32 <<< 31
theorem bfold_xor_left (l : List (BitVec 8)) : ∀ A B : BitVec 32, bfold (A ^^^ B) l = bfold A l ^^^ bsteps (8 * l.length) B := by
  induction l with
  | nil => intro A B; rfl
  | cons c l ih =>
    intro A B
    show bfold (btake (A ^^^ B) c) l = bfold (btake A c) l ^^^ _
    have e : btake (A ^^^ B) c = btake A c ^^^ bsteps 8 B := by
      unfold btake
      rw [← bsteps_xor]
      generalize up c = u
      exact congrArg (bsteps 8) (show (A ^^^ B) ^^^ u = (A ^^^ u) ^^^ B by ac_rfl)
    have e3 : 8 * (c :: l).length = 8 + 8 * l.length := by rw [List.length_cons]; omega
    rw [e, ih, ← bsteps_add, e3]
theorem btake_xor_right (s : BitVec 32) (a b : BitVec 8) : btake s (a ^^^ b) = btake s a ^^^ bsteps 8 (up b) := by
  unfold btake
  rw [← bsteps_xor, up_xor, BitVec.xor_assoc]
theorem topw_shr (j : Nat) (h : j < 32) : bsteps j (topw >>> j) = topw := by
  have e : topw >>> j = 1#32 <<< (31 - j) := by
    have : ∀ j : Fin 32, topw >>> (j : Nat) = 1#32 <<< (31 - (j : Nat)) := by decide +kernel
    exact this ⟨j, h⟩
  have e2 : topw >>> j <<< j = topw := by
    have : ∀ j : Fin 32, topw >>> (j : Nat) <<< (j : Nat) = topw := by decide +kernel
    exact this ⟨j, h⟩
  rw [bsteps_small j _ (by omega) ?_, e2]
  have : ∀ j : Fin 32, (topw >>> (j : Nat)).toNat < 2 ^ (32 - (j : Nat)) := by decide +kernel
  exact this ⟨j, h⟩
theorem bsteps_topw (m j : Nat) (h : j < 32) (hm : j ≤ m) : bsteps m (topw >>> j) = bsteps (m - j) topw := by
  have e : m = j + (m - j) := by omega
  conv => lhs; rw [e]
  rw [bsteps_add, topw_shr j h]
theorem up_bit (r : Nat) (h : r < 8) : up (128#8 >>> r) = topw >>> r := by
  have : ∀ r : Fin 8, up (128#8 >>> (r : Nat)) = topw >>> (r : Nat) := by decide +kernel
  exact this ⟨r, h⟩
/-- One bit is turned. -/
theorem bfold_flip (l : List (BitVec 8)) (q r : Nat) (hq : q < l.length) (hr : r < 8) (s : BitVec 32) :
    bfold s (l.set q (l[q] ^^^ (128#8 >>> r))) = bfold s l ^^^ bsteps (8 * l.length - (8 * q + r)) topw := by
  have e1 : l.set q (l[q] ^^^ (128#8 >>> r)) = l.take q ++ (l[q] ^^^ (128#8 >>> r)) :: l.drop (q + 1) := List.set_eq_take_append_cons_drop .. |>.trans (by simp [hq])
  have e2 : l = l.take q ++ l[q] :: l.drop (q + 1) := by simp
  rw [e1]
  conv => rhs; lhs; rw [e2]
  rw [bfold_append, bfold_append]
  show bfold (btake (bfold s (l.take q)) (l[q] ^^^ (128#8 >>> r))) (l.drop (q + 1)) = bfold (btake (bfold s (l.take q)) l[q]) (l.drop (q + 1)) ^^^ _
  rw [btake_xor_right, bfold_xor_left, up_bit r hr, ← bsteps_add, bsteps_topw _ r (by omega) (by omega)]
  have e4 : 8 + 8 * (l.drop (q + 1)).length - r = 8 * l.length - (8 * q + r) := by rw [List.length_drop]; omega
  rw [e4]
theorem ws_set (l : List Int) (i : Nat) (x : Int) : ws (l.set i x) = (ws l).set i (w8 x) := by
  unfold ws; rw [List.map_set]
theorem Bytes_set (l : List Int) (i : Nat) (x : Int) (h : Bytes l) (hx : 0 ≤ x ∧ x < 256) : Bytes (l.set i x) := by
  intro y hy
  rcases List.mem_or_eq_of_mem_set hy with h1 | rfl
  · exact h y h1
  · exact hx
theorem ws_length (l : List Int) : (ws l).length = l.length := List.length_map ..
theorem ws_get (l : List Int) (i : Nat) (h : i < l.length) : (ws l)[i]'(by rw [ws_length]; exact h) = w8 l[i] := List.getElem_map ..
theorem shr128 (r : Nat) (h : r < 8) : w8 (shr .u8 128 (r : Int)) = 128#8 >>> r := by
  have : ∀ r : Fin 8, w8 (shr .u8 128 ((r : Nat) : Int)) = 128#8 >>> (r : Nat) := by decide +kernel
  exact this ⟨r, h⟩
/-- What a burst of turned bits from bit 'at' on makes of the sum: M has the turned bits, the first one highest; i of them have been looked at. -/
structure Burst (S : BitVec 32) (b c : List Int) (at_ i : Nat) (turned : Bool) (M : BitVec 32) : Prop where
  len : c.length = b.length
  bytes : Bytes c
  fold : bfold S (ws c) = bfold S (ws b) ^^^ bsteps (8 * b.length - at_) M
  low : ∀ t, t < 32 - i → M.getLsbD t = false
  is : turned = decide (M ≠ 0#32)
theorem Burst.init (S : BitVec 32) (b : List Int) (at_ : Nat) (h : Bytes b) : Burst S b b at_ 0 false 0#32 where
  len := rfl
  bytes := h
  fold := by rw [bsteps_zero, BitVec.xor_zero]
  low := by intro t _; simp
  is := by decide +kernel
theorem Burst.skip {S : BitVec 32} {b c : List Int} {at_ i : Nat} {turned : Bool} {M : BitVec 32} (h : Burst S b c at_ i turned M) : Burst S b c at_ (i + 1) turned M :=
  { h with low := fun t ht => h.low t (by omega) }
theorem Burst.turn {S : BitVec 32} {b c : List Int} {at_ i : Nat} {turned : Bool} {M : BitVec 32} (h : Burst S b c at_ i turned M) (hi : i < 32) (hp : at_ + i < 8 * b.length) (x : Int)
    (hx : x = c[(at_ + i) / 8]'(by rw [h.len]; omega)) :
    Burst S b (c.set ((at_ + i) / 8) (Go.bits .xor .u8 x (shr .u8 128 (((at_ + i) % 8 : Nat) : Int)))) at_ (i + 1) true (M ^^^ (topw >>> i)) where
  len := by rw [List.length_set, h.len]
  bytes := Bytes_set _ _ _ h.bytes (by rw [xor8]; exact n8_bd _)
  fold := by
    have hq : (at_ + i) / 8 < c.length := by rw [h.len]; omega
    rw [ws_set, xor8, w8_n8, shr128 _ (by omega), hx, ← ws_get c _ hq, bfold_flip _ _ _ (by rw [ws_length]; exact hq) (by omega), h.fold, bsteps_xor, ← BitVec.xor_assoc, bsteps_topw _ i hi (by omega)]
    have e5 : 8 * (ws c).length - (8 * ((at_ + i) / 8) + (at_ + i) % 8) = 8 * b.length - at_ - i := by rw [ws_length, h.len]; omega
    rw [e5]
  low := by
    intro t ht
    rw [BitVec.getLsbD_xor, h.low t (by omega)]
    have : ∀ (i : Fin 32) (t : Fin 32), (t : Nat) < 32 - ((i : Nat) + 1) → (topw >>> (i : Nat)).getLsbD (t : Nat) = false := by decide +kernel
    rw [this ⟨i, hi⟩ ⟨t, by omega⟩ ht]
    rfl
  is := by
    symm
    rw [decide_eq_true_iff]
    intro e
    have h1 : (M ^^^ (topw >>> i)).getLsbD (31 - i) = false := by rw [e]; simp
    rw [BitVec.getLsbD_xor, h.low (31 - i) (by omega)] at h1
    have : ∀ (i : Fin 32), (topw >>> (i : Nat)).getLsbD (31 - (i : Nat)) = true := by decide +kernel
    rw [this ⟨i, hi⟩] at h1
    cases h1
theorem Burst.sums {S : BitVec 32} {b c : List Int} {at_ i : Nat} {turned : Bool} {M : BitVec 32} (h : Burst S b c at_ i turned M) : (bfold S (ws b) = bfold S (ws c)) ↔ turned = false := by
  rw [h.fold, h.is]
  constructor
  · intro e
    have e2 := congrArg (fun x => bfold S (ws b) ^^^ x) e
    simp only [BitVec.xor_self, ← BitVec.xor_assoc, BitVec.zero_xor] at e2
    have := bsteps_eq_zero _ _ e2.symm
    rw [decide_eq_false_iff_not]
    exact fun hn => hn this
  · intro e
    rw [decide_eq_false_iff_not] at e
    have : M = 0#32 := Decidable.not_not.1 e
    rw [this, bsteps_zero, BitVec.xor_zero]

theorem turned_end (b c : List Int) (hb : Bytes b) (at_ i : Nat) (turned : Bool) (M : BitVec 32) (h : Burst (BitVec.allOnes 32) b c at_ i turned M) :
    ((crc_Of.f b).bind fun t112 => ((crc_Of.f c).bind fun t113 => (some ((t112 != t113) == turned)))) = some true := by
  have e1 : ∀ x, crc_Of.f x = some (crcAdd 0 x) := fun _ => rfl
  rw [e1, e1]
  simp only [Option.bind_some]
  have hs := h.sums
  have he : crcAdd 0 b = crcAdd 0 c ↔ turned = false := by
    rw [crcAdd_zero b hb, crcAdd_zero c h.bytes, n32_inj, not_inj]
    exact hs
  congr 1
  cases turned with
  | false => rw [he.2 rfl]; simp
  | true =>
    have : ¬ crcAdd 0 b = crcAdd 0 c := fun e => by have := he.1 e; cases this
    rw [bne_iff_ne.2 this]; rfl
theorem turned_loop (b : List Int) (hb : Bytes b) (hl : b.length * 1 ≤ 140737488351232) (bits : Int) (at_ : Nat) (hat : at_ < 8 * b.length) :
    ∀ (d k i : Nat) (c : List Int) (turned : Bool) (M : BitVec 32), i + d = 32 → 2 * d + 1 < k → Burst (BitVec.allOnes 32) b c at_ i turned M →
      scriptoriumlaw03_CrcTurned.l0 k b (at_ : Int) bits c turned (i : Int) = some true := by
  intro d
  induction d with
  | zero =>
    intro k i c turned M h1 hk h
    obtain ⟨k, rfl⟩ : ∃ j, k = j + 2 := ⟨k - 2, by omega⟩
    simp only [scriptoriumlaw03_CrcTurned.l0]
    rw [if_neg (by omega)]
    simp only [scriptoriumlaw03_CrcTurned.j1, Bool.false_eq_true, if_false]
    exact turned_end b c hb at_ i turned M h
  | succ d ih =>
    intro k i c turned M h1 hk h
    obtain ⟨k, rfl⟩ : ∃ j, k = j + 2 := ⟨k - 2, by omega⟩
    have hq : at_ + i < 8 * b.length → (at_ + i) / 8 < c.length := by intro hp; rw [h.len]; omega
    have hq0 : (0 : Int) ≤ (((at_ + i) / 8 : Nat) : Int) := by omega
    have hr0 : (0 : Int) ≤ (((at_ + i) % 8 : Nat) : Int) := by omega
    simp only [scriptoriumlaw03_CrcTurned.l0]
    rw [if_pos (by omega)]
    have w1 : wrap64 ((at_ : Int) + (i : Int)) = ((at_ + i : Nat) : Int) := by unfold wrap64; omega
    have w2 : wrap64 (8 * (b.length : Int)) = ((8 * b.length : Nat) : Int) := by unfold wrap64; omega
    have w3 : wrap64 ((i : Int) + 1) = ((i + 1 : Nat) : Int) := by unfold wrap64; omega
    rw [w1, w2]
    simp only [scriptoriumlaw03_CrcTurned.j1]
    rw [w1, w3]
    by_cases hp : at_ + i < 8 * b.length
    · have hq := hq hp
      have hp' : ((at_ + i : Nat) : Int) < ((8 * b.length : Nat) : Int) := by omega
      rw [if_pos (decide_eq_true hp'), if_pos (by omega)]
      have t1 : Int.tdiv ((at_ + i : Nat) : Int) 8 = (((at_ + i) / 8 : Nat) : Int) := by rw [Int.tdiv_eq_ediv_of_nonneg (by omega)]; omega
      have t2 : Int.tmod ((at_ + i : Nat) : Int) 8 = (((at_ + i) % 8 : Nat) : Int) := by rw [Int.tmod_eq_emod_of_nonneg (by omega)]; omega
      have w4 : wrap64 (((at_ + i) / 8 : Nat) : Int) = (((at_ + i) / 8 : Nat) : Int) := by unfold wrap64; omega
      rw [t1, t2, w4]
      clear t1 t2 w4 w1 w2 w3
      by_cases hbit : Go.bits .and .u32 (shr .u32 bits (i : Int)) 1 = 1
      · rw [if_pos hbit, if_pos hq0, if_pos (Int.ofNat_lt.2 hq), if_pos hr0, Int.toNat_natCast, rd_get c _ hq]
        have hh := h.turn (by omega) hp _ rfl
        exact ih k (i + 1) _ true _ (by omega) (by omega) hh
      · rw [if_neg hbit]
        exact ih k (i + 1) _ turned _ (by omega) (by omega) h.skip
    · have hp' : ¬ ((at_ + i : Nat) : Int) < ((8 * b.length : Nat) : Int) := by omega
      have hd := decide_eq_false hp'
      rw [hd]
      simp only [Bool.false_eq_true, if_false]
      exact turned_end b c hb at_ i turned M h
theorem CrcTurned : scriptoriumlaw03_CrcTurned.Pure := by
  intro l a by_ hm hl hw ha hby
  have hb := wf_bytes hw
  obtain ⟨K, hK⟩ : ∃ K, K = 100 := ⟨_, rfl⟩
  refine ⟨K, ?_⟩
  unfold scriptoriumlaw03_CrcTurned.f
  have e0 : scriptoriumlaw03_works.f = some true := rfl
  rw [e0]
  simp only [Option.bind_some, if_true]
  by_cases h0 : (l.length : Int) = 0
  · rw [if_pos h0]
  have w2 : wrap64 (8 * (l.length : Int)) = ((8 * l.length : Nat) : Int) := by unfold wrap64; omega
  obtain ⟨r, hr, hr0, hr1⟩ := bring_some a ((8 * l.length : Nat) : Int) (by omega) (by omega)
  rw [if_neg h0, w2, hr]
  simp only [Option.bind_some]
  rw [copyB l hl]
  simp only [Option.bind_some]
  obtain ⟨at_, rfl⟩ := Int.eq_ofNat_of_zero_le hr0
  have := turned_loop l hb hl by_ at_ (by omega) 32 K 0 l false 0#32 rfl (by omega) (Burst.init _ l at_ hb)
  rw [show ((0 : Nat) : Int) = 0 from rfl] at this
  exact this

end Go.Proofs.Ytfmnkghcbhajaaa.Pure
