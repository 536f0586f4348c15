/- Written by xprint.py, a program of these sessions (over the print of the kit, with leaves typed by hand): one Lean function for each Go function, and the proof that the Go code comes to its answers. -/
import Derived.Test.YtclbcmblgbinpaaPQuillNumx0
import Derived.Test.YtclbcmblgbinpaaPQuillNumx1
namespace Go.Proofs.Ytclbcmblgbinpaa.PQuillNum
open Go.RowKit Go.Proofs.YtclbcmblgbinpaaW.PrintWords Go.Proofs.YtclbcmblgbinpaaW.PrintLast Go.Proofs.YtclbcmblgbinpaaW.PrintMore
attribute [local go_sem] max2_int min2_int max_two min_two max_three min_three max_four min_four   -- for this text's walks alone
set_option linter.unusedVariables false
set_option linter.unusedSimpArgs false

/-! ### quill_take: function 34 (a leaf, by hand) -/
/-- What 'take' answers: a number, where the rest lies, what is wrong. -/
def TakeEnd (q : Int × List Int × Int) (w : World) (e : Ending) (w' : World) : Prop :=
  ∃ (A : Option Addr) (c : Nat), e = .returned (.tuple #[.int .i64 q.1, .slice A q.2.1.length c, .int .i64 q.2.2]) ∧ Kd.C (Kd.int .u8) w A q.2.1.length q.2.1 ∧ q.2.1.length ≤ c ∧ Drawn0 w w'
theorem rd_cons (b : Int) (t : List Int) : rd (b :: t) 0 = b := rfl
set_option maxHeartbeats 8000000 in
set_option maxRecDepth 100000 in
theorem quill_take.calls_none (A0 : Option Addr) (c0 : Nat) (w : World) : Calls Try.prog 34 #[.slice A0 0 c0] w (TakeEnd (0, [], 3) w) := by
  go_enter Try.func34, Try.ntmps34
  go_wp2
  go_ret3
  exact ⟨none, 0, rfl, Kd.C_nil _ _, Nat.le_refl _, Drawn0.refl _⟩
set_option maxHeartbeats 8000000 in
set_option maxRecDepth 100000 in
theorem quill_take.calls_many (A0 : Option Addr) (c0 : Nat) (b : Int) (t : List Int) (w : World) (hr0 : Kd.C (Kd.int .u8) w A0 (b :: t).length (b :: t)) (h7 : 7 < b) :
    Calls Try.prog 34 #[.slice A0 (b :: t).length c0] w (TakeEnd (0, [], 4) w) := by
  obtain ⟨l0, hl0⟩ : ∃ l0, l0 = b :: t := ⟨_, rfl⟩
  rw [← hl0] at hr0 ⊢
  have hb : rd l0 0 = b := by rw [hl0]; rfl
  have hlen : 0 < l0.length := by rw [hl0]; exact Nat.succ_pos _
  obtain ⟨ad, e104, hx⟩ := Kd.at_int hr0 0 (by omega) (by omega)
  cases e104
  rw [hb, show ((0 : Int)).toNat = 0 from rfl, Addr.add_zero'] at hx
  have hz : ((l0.length : Int) == 0) = false := by rw [beq_eq_false_iff_ne]; omega
  clear hb hl0 hr0
  go_enter Try.func34, Try.ntmps34
  go_wp2
  go_ret3
  exact ⟨none, 0, rfl, Kd.C_nil _ _, Nat.le_refl _, Drawn0.refl _⟩
set_option maxHeartbeats 8000000 in
set_option maxRecDepth 100000 in
theorem quill_take.calls_short (A0 : Option Addr) (c0 : Nat) (m : Nat) (t : List Int) (w : World) (hr0 : Kd.C (Kd.int .u8) w A0 ((m : Int) :: t).length ((m : Int) :: t)) (h7 : m ≤ 7) (hs : t.length < m) :
    Calls Try.prog 34 #[.slice A0 ((m : Int) :: t).length c0] w (TakeEnd (0, [], 3) w) := by
  obtain ⟨l0, hl0⟩ : ∃ l0, l0 = (m : Int) :: t := ⟨_, rfl⟩
  rw [← hl0] at hr0 ⊢
  have hb : rd l0 0 = (m : Int) := by rw [hl0]; rfl
  have hlen : 0 < l0.length := by rw [hl0]; exact Nat.succ_pos _
  have hlt : l0.length = t.length + 1 := by rw [hl0]; rfl
  have hs2 : l0.length ≤ m := by omega
  obtain ⟨ad, e104, hx⟩ := Kd.at_int hr0 0 (by omega) (by omega)
  cases e104
  rw [hb, show ((0 : Int)).toNat = 0 from rfl, Addr.add_zero'] at hx
  have hz : ((l0.length : Int) == 0) = false := by rw [beq_eq_false_iff_ne]; omega
  clear hb hl0 hr0 hlt hs
  go_enter Try.func34, Try.ntmps34
  go_wp2
  go_ret3
  exact ⟨none, 0, rfl, Kd.C_nil _ _, Nat.le_refl _, Drawn0.refl _⟩
theorem qNum_take_step (own : List Int) (h : Byts own) (h7 : own.length ≤ 7) (k : Nat) (hk : k < own.length) :
    Go.bits .or .i64 (wrap64 (qNum (own.take k) * 256)) (wrap64 (rd own k)) = qNum (own.take (k + 1)) := by
  have hb := qNum_bd (own.take k) (h.take k)
  have hl : (own.take k).length = k := by rw [List.length_take]; omega
  rw [hl] at hb
  have hp : (256 : Int) ^ k ≤ 256 ^ 6 := by
    have h : ∀ j : Fin 7, (256 : Int) ^ (j : Nat) ≤ 256 ^ 6 := by decide
    exact h ⟨k, by omega⟩
  have hp6 : (256 : Int) ^ 6 = 281474976710656 := rfl
  have hc := h own[k] (List.getElem_mem hk)
  have hr : rd own k = own[k] := by simp [rd, List.getD_eq_getElem?_getD, List.getElem?_eq_getElem hk]
  rw [List.take_succ_eq_append_getElem hk, qNum_snoc, hr]
  have hw : wrap64 (qNum (own.take k) * 256) = qNum (own.take k) * 256 := by unfold wrap64; omega
  have hw2 : wrap64 own[k] = own[k] := by unfold wrap64; omega
  rw [hw, hw2]
  exact or_shift _ _ hb.1 (by omega) hc.1 hc.2
set_option maxHeartbeats 8000000 in
set_option maxRecDepth 100000 in
theorem quill_take.calls_whole (A0 : Option Addr) (c0 : Nat) (m : Nat) (t : List Int) (w : World) (hB : Byts ((m : Int) :: t)) (hr0 : Kd.C (Kd.int .u8) w A0 ((m : Int) :: t).length ((m : Int) :: t)) (hc0 : ((m : Int) :: t).length ≤ c0) (h7 : m ≤ 7) (hs : m ≤ t.length) :
    Calls Try.prog 34 #[.slice A0 ((m : Int) :: t).length c0] w (TakeEnd (qTake ((m : Int) :: t)) w) := by
  obtain ⟨l0, hl0⟩ : ∃ l0, l0 = (m : Int) :: t := ⟨_, rfl⟩
  obtain ⟨own, hown⟩ : ∃ own, own = t.take m := ⟨_, rfl⟩
  obtain ⟨rest, hrt⟩ : ∃ rest, rest = t.drop m := ⟨_, rfl⟩
  have hq : qTake ((m : Int) :: t) = if own.head? = some 0 ∨ 9007199254740991 < qNum own then (0, [], 4) else (qNum own, rest, 0) := by
    rw [qTake_cons, if_neg (by omega), if_neg (by omega), Int.toNat_natCast, ← hown, ← hrt]
  obtain ⟨q, hqq⟩ : ∃ q, q = qTake ((m : Int) :: t) := ⟨_, rfl⟩
  rw [← hqq] at hq ⊢
  have HQ := Aside0.mk hq
  clear hq hqq
  have hBo : Aside0 (Byts own) := ⟨by rw [hown]; exact hB.tail.take m⟩
  have hol : own.length = m := by rw [hown, List.length_take]; omega
  have ho0 : (l0.take (1 + (m : Int)).toNat).drop (1 : Int).toNat = own := by
    rw [hl0, hown]
    have : (1 + (m : Int)).toNat = m + 1 := by omega
    rw [this]
    rfl
  have hrest : l0.drop (1 + (m : Int)).toNat = rest := by
    rw [hl0, hrt]
    have : (1 + (m : Int)).toNat = m + 1 := by omega
    rw [this]
    rfl
  rw [← hl0] at hr0 hc0 ⊢
  have hb : rd l0 0 = (m : Int) := by rw [hl0]; rfl
  have hlt : l0.length = t.length + 1 := by rw [hl0]; rfl
  obtain ⟨i01, hi01, _, hsz1, _⟩ := info_parts info5
  obtain ⟨A1, hcut1, hA1, hC1⟩ := print_mid3_of (P := Try.prog) (Value.int .u8) 0 22 5 .i64 .i64 .i64 Try.underlying22 hi01 hsz1 A0 c0 l0 1 (1 + (m : Int)) (by omega) (by omega) (by omega) hc0
  obtain ⟨A2, hcut2, hA2, hC2⟩ := print_drop_of (P := Try.prog) (Value.int .u8) 0 22 5 .i64 Try.underlying22 hi01 hsz1 A0 c0 l0 (1 + (m : Int)) (by omega) (by omega) hc0
  rw [ho0] at hcut1 hC1
  rw [hrest] at hcut2 hC2
  have HR1 : Aside0 (Kd.C (Kd.int .u8) w A1 own.length own) := ⟨by
    have := Kd.C_of_reads (h1 := fun _ => rfl) (hA1 w (Kd.reads_of_C hr0))
    rw [ho0] at this
    exact this⟩
  have HR2 : Aside0 (Kd.C (Kd.int .u8) w A2 rest.length rest) := ⟨by
    have := Kd.C_of_reads (h1 := fun _ => rfl) (hA2 w (Kd.reads_of_C hr0))
    rw [hrest] at this
    exact this⟩
  have HC2 := Aside0.mk hC2
  clear hA1 hA2 hC1 hC2 hi01 hsz1
  obtain ⟨ad, e104, hx⟩ := Kd.at_int hr0 0 (by omega) (by omega)
  cases e104
  rw [hb, show ((0 : Int)).toNat = 0 from rfl, Addr.add_zero'] at hx
  have hz : ((l0.length : Int) == 0) = false := by rw [beq_eq_false_iff_ne]; omega
  have hs2 : m + 1 ≤ l0.length := by omega
  have hmax : l0.length ≤ 9223372036854775807 := by have := Kd.C_max hr0; omega
  have hol1 : own.length ≤ 7 := by omega
  have b1 : decide ((7 : Int) < (m : Int)) = false := decide_eq_false (by omega)
  have b2 : decide ((l0.length : Int) - 1 < (m : Int)) = false := decide_eq_false (by omega)
  have b3 : 1 + (m : Int) ≤ (c0 : Int) := by omega
  have HOL := Aside0.mk hol
  clear hb hl0 hr0 hlt hs ho0 hrest hown hrt hB hol
  go_enter Try.func34, Try.ntmps34
  go_wp2_with fail
  go_loopg [2, 38] own.length (fun kq v2 v38 w' => ∃ (k : Nat), v2 = .int .i64 (qNum (own.take k)) ∧ v38 = .int .i64 k ∧ Aside0 (kq + k = own.length) ∧ Drawn0 w w')
  case atStart => exact ⟨0, rfl, rfl, ⟨rfl⟩, Drawn0.refl _⟩
  case round =>
    obtain ⟨k, rfl, rfl, HK, ⟨m1, rfl⟩⟩ := hrel
    cases gk with
    | succ k1 =>
      have hk : k < own.length := by have := HK.out; omega
      have hkb : decide (k < own.length) = true := decide_eq_true hk
      obtain ⟨ad1, e105, hx1⟩ := Kd.at_int HR1.out k (by omega) (by omega)
      cases e105
      simp only [Int.toNat_natCast] at hx1
      have HS := Aside0.mk (qNum_take_step own hBo.out hol1 k hk)
      go_wp2
      go_roundg k1
      case measure => omega
      case rel => exact ⟨k + 1, by rw [← HS.out], by go_num, ⟨by have := HK.out; omega⟩, by repeat (first | exact Drawn0.refl _ | apply Drawn0.step)⟩
    | zero =>
      have hk : k = own.length := by have := HK.out; omega
      have hkb : decide (k < own.length) = false := decide_eq_false (by omega)
      have hkq : qNum (own.take k) = qNum own := by rw [hk, List.take_length]
      rw [hkq]
      clear hkq HK hk
      have hx9 : (1 + (m : Int)).toNat = m + 1 := by omega
      rw [hx9] at HC2 hcut2
      clear hx9
      by_cases hown0 : own.length = 0
      · have hnil : own = [] := List.length_eq_zero_iff.1 hown0
        have hq := HQ.out
        rw [if_neg (by rw [hnil]; rintro (h | h); · cases h
                       · revert h; decide)] at hq
        have HQ1 := Aside0.mk hq
        have hlz : decide ((0 : Int) < (own.length : Int)) = false := decide_eq_false (by omega)
        have hlz2 : decide (0 < own.length) = false := decide_eq_false (by omega)
        have hqz : Aside0 (qNum own = 0) := ⟨by rw [hnil]; rfl⟩
        have hbg : decide (9007199254740991 < qNum own) = false := decide_eq_false (by have := hqz.out; omega)
        clear hq HQ hnil hown0 hqz
        go_wp2
        go_quiet (fail)
        go_wp2
        go_ret3
        exact ⟨_, _, by rw [HQ1.out]; rfl, by rw [HQ1.out]; exact HR2.out, by rw [HQ1.out]; exact HC2.out, by repeat (first | exact Drawn0.refl _ | apply Drawn0.step)⟩
      · have hlp : 0 < own.length := by omega
        obtain ⟨ad2, e106, hx2⟩ := Kd.at_int HR1.out 0 (by omega) (by omega)
        cases e106
        rw [show ((0 : Int)).toNat = 0 from rfl, Addr.add_zero'] at hx2
        have hlz : decide ((0 : Int) < (own.length : Int)) = true := decide_eq_true (by omega)
        have hlz2 : decide (0 < own.length) = true := decide_eq_true (by omega)
        have hhead : own.head? = some (rd own 0) := by
          cases own with
          | nil => cases hlp
          | cons x own1 => rfl
        obtain ⟨x, hx⟩ : ∃ x, x = rd own 0 := ⟨_, rfl⟩
        rw [← hx] at hhead hx2
        clear hx hown0
        by_cases hx0 : x = 0
        · have hq := HQ.out
          rw [if_pos (.inl (by rw [hhead, hx0]))] at hq
          have HQ1 := Aside0.mk hq
          have hxb : ((x : Int) == 0) = true := by rw [hx0]; rfl
          clear hq HQ hhead hx0
          go_wp2
          go_ret3
          exact ⟨none, 0, by rw [HQ1.out]; rfl, by rw [HQ1.out]; exact Kd.C_nil _ _, by rw [HQ1.out]; exact Nat.le_refl _, by repeat (first | exact Drawn0.refl _ | apply Drawn0.step)⟩
        · have hxb : ((x : Int) == 0) = false := by rw [beq_eq_false_iff_ne]; exact hx0
          by_cases hbig : 9007199254740991 < qNum own
          · have hq := HQ.out
            rw [if_pos (.inr hbig)] at hq
            have HQ1 := Aside0.mk hq
            have hbg : decide (9007199254740991 < qNum own) = true := decide_eq_true hbig
            clear hq HQ hhead hx0
            go_wp2
            go_ret3
            exact ⟨none, 0, by rw [HQ1.out]; rfl, by rw [HQ1.out]; exact Kd.C_nil _ _, by rw [HQ1.out]; exact Nat.le_refl _, by repeat (first | exact Drawn0.refl _ | apply Drawn0.step)⟩
          · have hq := HQ.out
            rw [if_neg (by rw [hhead]; rintro (h | h); · exact hx0 (by simpa using h)
                           · exact hbig h)] at hq
            have HQ1 := Aside0.mk hq
            have hbg : decide (9007199254740991 < qNum own) = false := decide_eq_false hbig
            clear hq HQ hhead hx0
            go_wp2
            go_quiet (fail)
            go_wp2
            go_ret3
            exact ⟨_, _, by rw [HQ1.out]; rfl, by rw [HQ1.out]; exact HR2.out, by rw [HQ1.out]; exact HC2.out, by repeat (first | exact Drawn0.refl _ | apply Drawn0.step)⟩
/-- The whole of it. -/
theorem quill_take.calls (A0 : Option Addr) (c0 : Nat) (l0 : List Int) (w : World) (hB : Byts l0) (hr0 : Kd.C (Kd.int .u8) w A0 l0.length l0) (hc0 : l0.length ≤ c0) :
    Calls Try.prog 34 #[.slice A0 l0.length c0] w (TakeEnd (qTake l0) w) := by
  cases l0 with
  | nil => exact quill_take.calls_none A0 c0 w
  | cons b t =>
    have hb := hB b (by simp)
    by_cases h7 : 7 < b
    · have e : qTake (b :: t) = (0, [], 4) := by rw [qTake_cons, if_pos h7]
      rw [e]
      exact quill_take.calls_many A0 c0 b t w hr0 h7
    · obtain ⟨m, rfl⟩ := Int.eq_ofNat_of_zero_le hb.1
      by_cases hs : t.length < m
      · have e : qTake ((m : Int) :: t) = (0, [], 3) := by rw [qTake_cons, if_neg h7, if_pos (by omega)]
        rw [e]
        exact quill_take.calls_short A0 c0 m t w hr0 (by omega) hs
      · exact quill_take.calls_whole A0 c0 m t w hB hr0 hc0 (by omega) (by omega)

/-! ### slices_Clone_byte_byte: function 35 (a leaf, by hand) -/
def slices_Clone_byte_byte.f (l0 : List Int) : Option (List Int) := if l0.length < 140737488355328 then (some l0) else (none)
set_option maxHeartbeats 8000000 in
set_option maxRecDepth 100000 in
theorem slices_Clone_byte_byte.calls (A0 : Option Addr) (c0 : Nat) (l0 : List Int) (r : List Int) (w : World) (hr0 : Kd.C (Kd.int .u8) w A0 l0.length l0) (hc0 : l0.length ≤ c0) (h : slices_Clone_byte_byte.f l0 = some r) :
    Calls Try.prog 35 #[.slice A0 l0.length c0] w fun e w' => ∃ v0_ : Value, e = .returned (v0_) ∧ Kd.R (Kd.int .u8) 5 w' w.heap.size (fun _ => True) v0_ r ∧ Below w.heap.size w w' := by
  have HR0 := Aside0.mk hr0
  have HC0 := Aside0.mk hc0
  clear hr0 hc0
  have HB := Aside0.mk (Below.refl w.heap.size w)
  have H : (if l0.length < 140737488355328 then (some l0) else (none)) = some r := h
  clear h
  by_cases c2 : l0.length < 140737488355328
  · rw [if_pos c2] at H
    have LM := Aside0.mk c2
    clear c2
    obtain rfl := Option.some.inj H
    clear H
    have qT : ∀ (w : World) (a : Option Addr) (n c n' c' : Nat), (binOp .eql 22 (.slice a n c) (.slice none n' c')).run Try.prog w = .ok (.bool a.isNone) w := fun w a n c n' c' => Lib.run_eql_slice_nil w _ _ a n c n' c' Try.underlying22
    cases A0 with
    | none =>
      have h0 : l0.length = 0 := by
        rcases Nat.eq_zero_or_pos l0.length with h0 | h0
        · exact h0
        · obtain ⟨ad, he, _⟩ := HR0.out.2.2 h0
          cases he
      obtain rfl : l0 = [] := List.length_eq_zero_iff.1 h0
      go_enter Try.func35, Try.ntmps35
      go_wp2
      go_ret
      exact ⟨_, rfl, Kd.R_nil _ _ _ _ _, HB.out⟩
    | some a =>
      go_enter Try.func35, Try.ntmps35
      go_wp2_with (first | ((with_reducible refine gate_dst (N := 5) rfl ?_); (try (refine gate_guard (by rfl) ?_; dsimp only)); refine Kd.R_lit (Kd.int .u8) _ 5 ?hg (N := 5) ?hd (xs := ([] : List Int)) (inner := []) (ok := fun _ => True) (okp := fun _ => True) ?hr ?hp (fun _ hk => hk) trivial (Below.refl _ _) (Nat.le_refl _) (by simp) ?_; (case hd => rfl); (case hg => rfl); (case hr => first | (go_simp; done) | (go_simp; rfl)); (case hp => exact (Reps.none _ _)); intro v1 w1 ho1 hb1 hg1 hn1; clear hg1 hn1; have HO1 := Aside0.mk ho1; have HB1 := Aside0.mk hb1; clear ho1 hb1; obtain ⟨Ao, co, eo⟩ := Kd.R_slice HO1.out; subst eo) | ((with_reducible refine gate_builtin (b := .append) (xs := #[.tmp 5, .tmp 6]) rfl ?_); at_builtin; refine Kd.R_append_rows (Kd.int .u8) (w0 := w) w.heap.size rfl (.tmp 5) (.tmp 6) 22 5 (.int .u8 0) 1 rfl Try.underlying22 info5 rfl (by decide) (by omega) (.slice Ao ([] : List Int).length co) ([] : List Int) l0 _ _ _ (fun _ => True) (fun _ => False) rfl rfl ?aO ?aR (fun _ _ h => h) (fun _ h => h.elim) ?aF ?aB ?aS ?aL ?_; (case aR => exact Kd.C_below HR0.out HB1.out); (case aB => exact HB1.out); (case aF => exact (fun _ _ => trivial)); (case aO => exact HO1.out); (case aS => exact below_size HB1.out); (case aL => have := LM.out; simp; omega); intro v2 w2 ho2 hb2 hg2 hat2; have HO2 := Aside0.mk ho2; have HB2 := Aside0.mk hb2; clear ho2 hb2 hg2 hat2))
      go_ret
      exact ⟨_, rfl, HO2.out, HB2.out⟩
  · rw [if_neg c2] at H
    exact absurd H (by simp)

/-! ### quill_TakeStr: function 21 (a leaf, by hand) -/
/-- A text's taking. -/
def qTakeStr (l : List Int) (most : Int) : ByteArray × List Int × Int :=
  if most < 0 then ((⟨#[]⟩ : ByteArray), [], 2)
  else if (qTake l).2.2 ≠ 0 then ((⟨#[]⟩ : ByteArray), [], (qTake l).2.2)
  else if most < (qTake l).1 then ((⟨#[]⟩ : ByteArray), [], 5)
  else if ((qTake l).2.1.length : Int) < (qTake l).1 then ((⟨#[]⟩ : ByteArray), [], 3)
  else (strOfNums ((qTake l).2.1.take (qTake l).1.toNat), (qTake l).2.1.drop (qTake l).1.toNat, 0)
def quill_TakeStr.f (l0 : List Int) (a1 : Int) : Option (ByteArray × List Int × Int) := if isByts l0 = true ∧ l0.length < 140737488355328 then (some (qTakeStr l0 a1)) else (none)
set_option maxHeartbeats 8000000 in
set_option maxRecDepth 100000 in
theorem quill_TakeStr.calls (A0 : Option Addr) (c0 : Nat) (l0 : List Int) (a1 : Int) (r1 : ByteArray) (r2 : List Int) (r3 : Int) (w : World) (hr0 : Kd.C (Kd.int .u8) w A0 l0.length l0) (hc0 : l0.length ≤ c0) (h : quill_TakeStr.f l0 a1 = some (r1, r2, r3)) :
    Calls Try.prog 21 #[.slice A0 l0.length c0, .int .i64 a1] w fun e w' => ∃ v1_ : Value, e = .returned (.tuple #[.string r1, v1_, .int .i64 r3]) ∧ Kd.R (Kd.int .u8) 5 w' w.heap.size (fun _ => True) v1_ r2 ∧ Below w.heap.size w w' := by
  unfold quill_TakeStr.f at h
  by_cases hc : isByts l0 = true ∧ l0.length < 140737488355328
  · rw [if_pos hc] at h
    have hq := Option.some.inj h
    clear h
    have HR0 := Aside0.mk hr0
    have HC0 := Aside0.mk hc0
    have HBy := Aside0.mk ((isByts_iff l0).1 hc.1)
    obtain ⟨⟨n, rest, er⟩, hqt⟩ : ∃ q, q = qTake l0 := ⟨_, rfl⟩
    have hl2 : rest.length < 140737488355328 := by have := qTake_len l0; rw [← hqt] at this; have : rest.length ≤ l0.length := this; omega
    have hbd := qTake_bd l0 HBy.out
    unfold qTakeStr at hq
    rw [← hqt] at hq hbd
    have hn0 : 0 ≤ n := hbd.1
    have hn1 : n ≤ 9007199254740991 := hbd.2
    have HQT := Aside0.mk hqt
    dsimp only at hq
    clear hr0 hc0 hc hqt hbd
    by_cases h1 : a1 < 0
    · rw [if_pos h1] at hq
      injection hq with q1 hq
      injection hq with q2 q3
      subst q1 q2 q3
      go_enter Try.func21, Try.ntmps21
      go_wp2
      go_ret3
      exact ⟨_, rfl, Kd.R_nil _ _ _ _ _, Below.refl _ _⟩
    rw [if_neg h1] at hq
    by_cases h2 : er ≠ 0
    · rw [if_pos h2] at hq
      injection hq with q1 hq
      injection hq with q2 q3
      subst q1 q2 q3
      have h2b : (er != 0) = true := bne_iff_ne.2 h2
      clear h2
      go_enter Try.func21, Try.ntmps21
      go_wp2_with fail
      refine (quill_take.calls A0 c0 l0 _ HBy.out HR0.out HC0.out).mono ?_
      rw [← HQT.out]
      rintro e w1 ⟨A, c, rfl, hC, hcl, hd⟩
      have HB1 := Aside0.mk hd.below
      clear hC hd
      go_wp2
      go_ret3
      exact ⟨_, rfl, Kd.R_nil _ _ _ _ _, HB1.out⟩
    rw [if_neg h2] at hq
    have h2b : er = 0 := Decidable.not_not.1 h2
    subst h2b
    clear h2
    by_cases h3 : a1 < n
    · rw [if_pos h3] at hq
      injection hq with q1 hq
      injection hq with q2 q3
      subst q1 q2 q3
      go_enter Try.func21, Try.ntmps21
      go_wp2_with fail
      refine (quill_take.calls A0 c0 l0 _ HBy.out HR0.out HC0.out).mono ?_
      rw [← HQT.out]
      rintro e w1 ⟨A, c, rfl, hC, hcl, hd⟩
      have HB1 := Aside0.mk hd.below
      clear hC hd
      go_wp2
      go_ret3
      exact ⟨_, rfl, Kd.R_nil _ _ _ _ _, HB1.out⟩
    rw [if_neg h3] at hq
    by_cases h4 : (rest.length : Int) < n
    · rw [if_pos h4] at hq
      injection hq with q1 hq
      injection hq with q2 q3
      subst q1 q2 q3
      go_enter Try.func21, Try.ntmps21
      go_wp2_with fail
      refine (quill_take.calls A0 c0 l0 _ HBy.out HR0.out HC0.out).mono ?_
      rw [← HQT.out]
      rintro e w1 ⟨A, c, rfl, hC, hcl, hd⟩
      have HB1 := Aside0.mk hd.below
      clear hC hd
      go_wp2
      go_ret3
      exact ⟨_, rfl, Kd.R_nil _ _ _ _ _, HB1.out⟩
    rw [if_neg h4] at hq
    injection hq with q1 hq
    injection hq with q2 q3
    subst q3
    have hl3 : r2.length < 140737488355328 := by rw [← q2, List.length_drop]; omega
    have HCL : Aside0 (slices_Clone_byte_byte.f r2 = some r2) := ⟨if_pos hl3⟩
    have Q1 := Aside0.mk q1
    have Q2 := Aside0.mk q2
    clear q1 q2
    go_enter Try.func21, Try.ntmps21
    go_wp2_with fail
    refine (quill_take.calls A0 c0 l0 _ HBy.out HR0.out HC0.out).mono ?_
    rw [← HQT.out]
    rintro e w1 ⟨A, c, rfl, hC0, hcl, hd⟩
    dsimp only at hC0 hcl
    have hC := Kd.C_below hC0 hd.below
    have HB1 := Aside0.mk hd.below
    clear hC0 hd
    obtain ⟨i01, hi01, _, hsz1, _⟩ := info_parts info5
    obtain ⟨hcut1, hA1, hC1⟩ := print_take_of (P := Try.prog) (Value.int .u8) 0 22 5 .i64 Try.underlying22 hi01 hsz1 A c rest n hn0 (by omega) hcl
    obtain ⟨y, hy⟩ : ∃ y, y = rest.take n.toNat := ⟨_, rfl⟩
    rw [← hy] at hcut1 hA1 hC1
    obtain ⟨A2, hcut2, hA2, hC2⟩ := print_drop_of (P := Try.prog) (Value.int .u8) 0 22 5 .i64 Try.underlying22 hi01 hsz1 A c rest n hn0 (by omega) hcl
    have HR1 : Aside0 (Kd.C (Kd.int .u8) w1 A y.length y) := ⟨Kd.C_of_reads (h1 := fun _ => rfl) (hA1 w1 (Kd.reads_of_C hC))⟩
    have HR2 : Aside0 (Kd.C (Kd.int .u8) w1 A2 r2.length r2) := ⟨by rw [← Q2.out]; exact Kd.C_of_reads (h1 := fun _ => rfl) (hA2 w1 (Kd.reads_of_C hC))⟩
    rw [Q2.out] at hcut2 hC2
    have HC2 := Aside0.mk hC2
    have hcv := fun (W : World) (hb : Below w1.heap.size w1 W) => Kd.C_string (P := Try.prog) (c := c) Try.underlying22 Try.underlying5 Try.underlying9 (Kd.C_below HR1.out hb)
    rw [hy, Q1.out, ← hy] at hcv
    clear hy
    have HCV := Aside0.mk hcv
    clear hcv hC hcl hA1 hA2 hC1 hC2 hi01 hsz1
    go_wp2_with fail
    have hcv1 := HCV.out w1.drew (below_drew (Below.refl _ _))
    go_region_with (go_at_call 35; refine (slices_Clone_byte_byte.calls A2 _ r2 r2 _ ?s1 ?s2 HCL.out).mono ?_; (case s1 => exact Kd.C_drew HR2.out); (case s2 => exact HC2.out); rintro e w2 ⟨v2, rfl, ho, hb⟩; have hcv2 := HCV.out w2 (below_step (below_drew (Below.refl _ _)) hb); have HO := Aside0.mk (Kd.R_lower ho (below_size (below_drew HB1.out))); have HB := Aside0.mk (below_step (below_drew HB1.out) hb); clear ho hb)
    all_goals
      go_wp2
      go_ret3
      exact ⟨_, rfl, (by assumption : Aside0 (Kd.R _ _ _ _ _ _ _)).out, (by assumption : Aside0 (Below w.heap.size w _)).out⟩
  · rw [if_neg hc] at h
    exact absurd h (by simp)

/-! ### quill_Str: function 23 -/
def quill_Str.f (k : Nat) (a0 : ByteArray) (a1 : Int) : Option (List Int × Int) := if a1 < 0 then (some (([] : List Int), 2)) else (if (a0.size : Int) > a1 then (some (([] : List Int), 5)) else ((quill_Num.f k (a0.size : Int)).bind fun bt129 => (if bt129.2 = 0 then (if bt129.1.length + a0.size < 140737488355328 then (some ((bt129.1 ++ bytesOf a0), 0)) else (none)) else (some (([] : List Int), bt129.2)))))
theorem quill_Str.mono : ∀ a0 a1 k, LeO (quill_Str.f k a0 a1) (quill_Str.f (k + 1) a0 a1) := by
  intro a0 a1 k
  unfold quill_Str.f
  repeat' first
      | (with_reducible exact quill_Num.mono _ _)
      | (with_reducible exact LeO.refl _)
      | (with_reducible exact LeO.none _)
      | (with_reducible refine LeO.ite ?_ ?_)
      | (with_reducible refine LeO.bind ?_ (fun _ => ?_))
      | exact quill_Num.mono _ _
      | exact LeO.none _
      | refine LeO.ite ?_ ?_
      | refine LeO.bind ?_ (fun _ => ?_)
set_option maxHeartbeats 8000000 in
set_option maxRecDepth 100000 in
theorem quill_Str.calls (k : Nat) (a0 : ByteArray) (a1 : Int) (r1 : List Int) (r2 : Int) (w : World) (h : quill_Str.f k a0 a1 = some (r1, r2)) :
    Calls Try.prog 23 #[.string a0, .int .i64 a1] w fun e w' => ∃ v0_ : Value, e = .returned (.tuple #[v0_, .int .i64 r2]) ∧ Kd.R (Kd.int .u8) 5 w' w.heap.size (fun _ => True) v0_ r1 ∧ Below w.heap.size w w' := by
  have HB := Aside0.mk (Below.refl w.heap.size w)
  have H : (if a1 < 0 then (some (([] : List Int), 2)) else (if (a0.size : Int) > a1 then (some (([] : List Int), 5)) else ((quill_Num.f k (a0.size : Int)).bind fun bt129 => (if bt129.2 = 0 then (if bt129.1.length + a0.size < 140737488355328 then (some ((bt129.1 ++ bytesOf a0), 0)) else (none)) else (some (([] : List Int), bt129.2)))))) = some (r1, r2) := h
  clear h
  by_cases c3 : a1 < 0
  · rw [if_pos c3] at H
    have c3b0 : decide (a1 < 0) = true := decide_eq_true c3
    clear c3
    simp only [Option.some.injEq, Prod.mk.injEq] at H
    obtain ⟨rfl, rfl⟩ := H
    go_enter Try.func23, Try.ntmps23
    go_wp2
    go_ret2
    exact ⟨_, by first | rfl | (simp [errW_none, errW_some] <;> rfl) | (simp [*, errW_none, errW_some] <;> rfl), by first | exact Kd.R_nil _ _ _ _ _ | exact Kd.N_nil _ _ _ _ _ | exact Kd.V_nil _ _ _ _ _ | exact Kd.Q_nil _ _ _ _ _ | exact Kd.S_nil _ _ _ _ _, by repeat (first | (with_reducible first | exact HB.out | apply below_alloc | apply pw_below_drewN | apply below_drew1) | exact HB.out)⟩
  · rw [if_neg c3] at H
    have c3b0 : decide (a1 < 0) = false := decide_eq_false c3
    clear c3
    by_cases c4 : (a0.size : Int) > a1
    · rw [if_pos c4] at H
      have c4b0 : decide (a1 < (a0.size : Int)) = true := decide_eq_true c4
      clear c4
      simp only [Option.some.injEq, Prod.mk.injEq] at H
      obtain ⟨rfl, rfl⟩ := H
      go_enter Try.func23, Try.ntmps23
      go_wp2
      go_ret2
      exact ⟨_, by first | rfl | (simp [errW_none, errW_some] <;> rfl) | (simp [*, errW_none, errW_some] <;> rfl), by first | exact Kd.R_nil _ _ _ _ _ | exact Kd.N_nil _ _ _ _ _ | exact Kd.V_nil _ _ _ _ _ | exact Kd.Q_nil _ _ _ _ _ | exact Kd.S_nil _ _ _ _ _, by repeat (first | (with_reducible first | exact HB.out | apply below_alloc | apply pw_below_drewN | apply below_drew1) | exact HB.out)⟩
    · rw [if_neg c4] at H
      have c4b0 : decide (a1 < (a0.size : Int)) = false := decide_eq_false c4
      clear c4
      replace H := Option.bind_eq_some_iff.mp H
      obtain ⟨⟨t129, t130⟩, A50, H⟩ := H
      replace H : (if t130 = 0 then (if t129.length + a0.size < 140737488355328 then (some ((t129 ++ bytesOf a0), 0)) else (none)) else (some (([] : List Int), t130))) = some (r1, r2) := H
      have A5 := Aside0.mk A50
      clear A50
      by_cases c6 : t130 = 0
      · rw [if_pos c6] at H
        have c6b0 : (t130 == 0) = true := beq_iff_eq.mpr c6
        have c6b1 : (t130 != 0) = false := bne_eq_false_iff_eq.mpr c6
        clear c6
        by_cases c7 : t129.length + a0.size < 140737488355328
        · rw [if_pos c7] at H
          have LMc7 := Aside0.mk c7
          clear c7
          obtain ⟨y133, hy133⟩ : ∃ y_ : List Int, y_ = (t129 ++ bytesOf a0) := ⟨_, rfl⟩
          replace H : (some (y133, 0)) = some (r1, r2) := by first | (rw [hy133]; with_reducible exact H) | (have H2_ := (Option.bind_some _ _).symm.trans H; rw [hy133]; with_reducible exact H2_) | (have H2_ := (Option.bind_some _ _).symm.trans H; with_reducible exact H2_) | with_reducible exact H | (rw [hy133]; exact H) | exact H
          have Ny133 := Aside0.mk hy133
          clear hy133
          simp only [Option.some.injEq, Prod.mk.injEq] at H
          obtain ⟨rfl, rfl⟩ := H
          go_enter Try.func23, Try.ntmps23
          go_wp2_with (first | ((with_reducible refine gate_callee (f := 14) rfl ?_); refine goesL_ (some 19) rfl rfl Try.func14 (by kernel_rfl) rfl #[.int .i64 (a0.size : Int)] rfl (by (try simp only [List.map_toArray, List.map_cons, List.map_nil]); first | done | rfl | (simp only [List.length_drop, List.length_take]; rfl)) ?_; (with_reducible refine (quill_Num.calls k (a0.size : Int) t129 t130 _ A5.out).mono ?_); rintro e w8 ⟨v131, rfl, ho0, hb⟩; refine ⟨_, rfl, ?_⟩; have n0_ := Aside0.mk (Kd.R_lower ho0 (below_size (by repeat (first | (with_reducible first | exact HB.out | apply below_alloc | apply pw_below_drewN | apply below_drew1) | exact HB.out)))); have n1_ := Aside0.mk (below_step (by repeat (first | (with_reducible first | exact HB.out | apply below_alloc | apply pw_below_drewN | apply below_drew1) | exact HB.out)) hb); clear HB; have HO132 := n0_; have HB := n1_; clear n0_ n1_; (try clear hb); (try clear hb2); (try clear hk); (try clear hi); (try clear ho0)) | (at_builtin; refine print_append_str (w0 := w) w.heap.size rfl (.tmp 25) _ 22 9 5 rfl Try.underlying22 Try.underlying9 info5 v131 t129 a0 rfl rfl ?aO ?aB ?aS ?aL ?_; (case aB => exact (by repeat (first | (with_reducible first | exact HB.out | apply below_alloc | apply pw_below_drewN | apply below_drew1) | exact HB.out))); (case aO => exact (Kd.own_of_R (by (with_reducible repeat (first | apply Kd.R_alloc | apply Kd.R_drewN | apply Kd.R_drew)); exact HO132.out))); (case aS => exact (below_size (by repeat (first | (with_reducible first | exact HB.out | apply below_alloc | apply pw_below_drewN | apply below_drew1) | exact HB.out)))); (case aL => have := LMc7.out; omega); intro v134 w9 ho0 hb hg; have ho := Kd.R_of_own (h1 := fun _ => rfl) (ok := fun _ => True) ho0 (fun _ _ => trivial); clear ho0; have hat := True.intro; rw [← Ny133.out] at ho; change Kd.R (Kd.int .u8) 5 w9 w.heap.size (fun _ => True) v134 y133 at ho; have n0_ := Aside0.mk (hb); have n1_ := Aside0.mk (ho); clear HB; clear HO132; have HB := n0_; have HO135 := n1_; clear n0_ n1_; clear ho hb hg hat))
          go_ret2
          exact ⟨_, by first | rfl | (simp [errW_none, errW_some] <;> rfl) | (simp [*, errW_none, errW_some] <;> rfl), by (with_reducible repeat (first | apply Kd.R_alloc | apply Kd.R_drewN | apply Kd.R_drew)); exact HO135.out, by repeat (first | (with_reducible first | exact HB.out | apply below_alloc | apply pw_below_drewN | apply below_drew1) | exact HB.out)⟩
        · rw [if_neg c7] at H
          exact absurd H (by simp)
      · rw [if_neg c6] at H
        have c6b0 : (t130 == 0) = false := beq_eq_false_iff_ne.mpr c6
        have c6b1 : (t130 != 0) = true := bne_iff_ne.mpr c6
        simp only [Option.some.injEq, Prod.mk.injEq] at H
        obtain ⟨rfl, rfl⟩ := H
        go_enter Try.func23, Try.ntmps23
        go_wp2_with (first | ((with_reducible refine gate_callee (f := 14) rfl ?_); refine goesL_ (some 19) rfl rfl Try.func14 (by kernel_rfl) rfl #[.int .i64 (a0.size : Int)] rfl (by (try simp only [List.map_toArray, List.map_cons, List.map_nil]); first | done | rfl | (simp only [List.length_drop, List.length_take]; rfl)) ?_; (with_reducible refine (quill_Num.calls k (a0.size : Int) t129 t130 _ A5.out).mono ?_); rintro e w10 ⟨v131, rfl, ho0, hb⟩; refine ⟨_, rfl, ?_⟩; have n0_ := Aside0.mk (Kd.R_lower ho0 (below_size (by repeat (first | (with_reducible first | exact HB.out | apply below_alloc | apply pw_below_drewN | apply below_drew1) | exact HB.out)))); have n1_ := Aside0.mk (below_step (by repeat (first | (with_reducible first | exact HB.out | apply below_alloc | apply pw_below_drewN | apply below_drew1) | exact HB.out)) hb); clear HB; have HO132 := n0_; have HB := n1_; clear n0_ n1_; (try clear hb); (try clear hb2); (try clear hk); (try clear hi); (try clear ho0)))
        go_ret2
        exact ⟨_, by first | rfl | (simp [errW_none, errW_some] <;> rfl) | (simp [*, errW_none, errW_some] <;> rfl), by first | exact Kd.R_nil _ _ _ _ _ | exact Kd.N_nil _ _ _ _ _ | exact Kd.V_nil _ _ _ _ _ | exact Kd.Q_nil _ _ _ _ _ | exact Kd.S_nil _ _ _ _ _, by repeat (first | (with_reducible first | exact HB.out | apply below_alloc | apply pw_below_drewN | apply below_drew1) | exact HB.out)⟩

/-! ### quill_TakeNum: function 19 (a leaf, by hand) -/
def quill_TakeNum.f (l0 : List Int) : Option (Int × List Int × Int) := if isByts l0 = true ∧ l0.length < 140737488355328 then (some (qTake l0)) else (none)
set_option maxHeartbeats 8000000 in
set_option maxRecDepth 100000 in
theorem quill_TakeNum.calls (A0 : Option Addr) (c0 : Nat) (l0 : List Int) (r1 : Int) (r2 : List Int) (r3 : Int) (w : World) (hr0 : Kd.C (Kd.int .u8) w A0 l0.length l0) (hc0 : l0.length ≤ c0) (h : quill_TakeNum.f l0 = some (r1, r2, r3)) :
    Calls Try.prog 19 #[.slice A0 l0.length c0] w fun e w' => ∃ v1_ : Value, e = .returned (.tuple #[.int .i64 r1, v1_, .int .i64 r3]) ∧ Kd.R (Kd.int .u8) 5 w' w.heap.size (fun _ => True) v1_ r2 ∧ Below w.heap.size w w' := by
  unfold quill_TakeNum.f at h
  by_cases hc : isByts l0 = true ∧ l0.length < 140737488355328
  · rw [if_pos hc] at h
    have hq := Option.some.inj h
    clear h
    have HR0 := Aside0.mk hr0
    have HC0 := Aside0.mk hc0
    have HBy := Aside0.mk ((isByts_iff l0).1 hc.1)
    have hl2 : r2.length < 140737488355328 := by have := qTake_len l0; rw [hq] at this; have : r2.length ≤ l0.length := this; omega
    have hcl : slices_Clone_byte_byte.f r2 = some r2 := if_pos hl2
    have HQ := Aside0.mk hq
    have HCL := Aside0.mk hcl
    clear hr0 hc0 hc hq hcl hl2
    go_enter Try.func19, Try.ntmps19
    go_wp2_with fail
    refine (quill_take.calls A0 c0 l0 _ HBy.out HR0.out HC0.out).mono ?_
    rw [HQ.out]
    rintro e w1 ⟨A, c, rfl, hC, hcl, hd⟩
    dsimp only at hC hcl
    have HC1 := Aside0.mk (Kd.C_below hC hd.below)
    have HB1 := Aside0.mk hd.below
    clear hC hd
    go_wp2_with fail
    refine (slices_Clone_byte_byte.calls A c r2 r2 _ HC1.out hcl HCL.out).mono ?_
    rintro e w2 ⟨v2, rfl, ho, hb⟩
    have HO := Aside0.mk (Kd.R_lower ho (below_size HB1.out))
    have HB := Aside0.mk (below_step HB1.out hb)
    clear ho hb
    go_wp2
    go_ret3
    exact ⟨_, rfl, HO.out, HB.out⟩
  · rw [if_neg hc] at h
    exact absurd h (by simp)

/-! ### scriptoriumlaw01_is: function 27 (a leaf, by hand) -/
theorem lit_reads (w : World) (s : Nat) (hs : w.heap.size = s) (xs : List Int) (m : Nat × Nat) (hl : xs.length ≤ 9223372036854775807) : Kd.C (Kd.int .u8) (w.alloc (.cells (nums .u8 xs).toArray 5 m)) (some ⟨s, 0, none⟩) xs.length xs := by
  subst hs
  refine Kd.C_of_reads (d := (0 : Int)) (h1 := fun _ => rfl) ⟨rfl, hl, fun _ => ⟨_, rfl, fun j hj => ?_⟩⟩
  rw [add_plain]
  have h1 : ∀ (a : Array Obj) (x : Obj), (a.push x)[a.size]? = some x := fun a x => by simp
  simp only [World.cell?, World.alloc, h1]
  simp [nums, List.getD_eq_getElem?_getD, List.getElem?_eq_getElem hj]
theorem eqB_calls (xs : List Int) (n m : Nat) (A B : Option Addr) (c d : Nat) (w : World) (hn : xs.length = n) (hm : xs.length = m) (hc : n ≤ c) (hd : m ≤ d) (k : Nat) (h : scriptoriumref00_EqBytes.f k xs xs = some true)
    (hr : Kd.C (Kd.int .u8) w A xs.length xs) (hr2 : Kd.C (Kd.int .u8) w B xs.length xs) :
    Calls Try.prog 16 #[.slice A n c, .slice B m d] w fun e w' => e = .returned (.bool true) ∧ Below w.heap.size w w' := by
  subst hn
  subst hm
  exact (scriptoriumref00_EqBytes.calls k A c xs B d xs true w hr hc hr2 hd h).mono fun e w' ⟨h1, h2⟩ => ⟨h1, h2.below⟩
theorem takeNum_at (xs : List Int) (len : Nat) (A : Option Addr) (c : Nat) (n : Int) (rest : List Int) (er : Int) (w : World) (hn : xs.length = len) (hc : len ≤ c) (h : quill_TakeNum.f xs = some (n, rest, er)) (hr : Kd.C (Kd.int .u8) w A xs.length xs) :
    Calls Try.prog 19 #[.slice A len c] w fun e w' => ∃ v1_ : Value, e = .returned (.tuple #[.int .i64 n, v1_, .int .i64 er]) ∧ Kd.R (Kd.int .u8) 5 w' w.heap.size (fun _ => True) v1_ rest ∧ Below w.heap.size w w' := by
  subst hn
  exact quill_TakeNum.calls A c xs n rest er w hr hc h
set_option maxHeartbeats 8000000 in
set_option maxRecDepth 100000 in
/-- A number's bytes, there and back: of a literal (its capacity is its length). -/
theorem is_true (k : Nat) (n : Int) (b : List Int) (A : Option Addr) (len : Nat) (w : World) (hlen : b.length = len) (hsm : b.length ≤ 100) (hr : Kd.C (Kd.int .u8) w A b.length b)
    (hnum : quill_Num.f k n = some (b, 0)) (htake : quill_TakeNum.f (b ++ [9]) = some (n, [9], 0)) (he : scriptoriumref00_EqBytes.f k b b = some true) (he9 : scriptoriumref00_EqBytes.f k [9] [9] = some true) :
    Calls Try.prog 27 #[.int .i64 n, .slice A len len] w fun e w' => e = .returned (.bool true) ∧ Below w.heap.size w w' := by
  subst hlen
  have HR := Aside0.mk hr
  have HN := Aside0.mk hnum
  have HT := Aside0.mk htake
  have HE := Aside0.mk he
  have HE9 := Aside0.mk he9
  clear hr hnum htake he he9
  go_enter Try.func27, Try.ntmps27
  go_wp2_with fail
  refine (quill_Num.calls k n b 0 _ HN.out).mono ?_
  rintro e w1 ⟨v1, rfl, ho1, hb1⟩
  have HO1 := Aside0.mk ho1
  have HB1 := Aside0.mk hb1
  clear ho1 hb1
  obtain ⟨A1, c1, e1⟩ := Kd.R_slice HO1.out
  subst e1
  have HR1 := Aside0.mk (Kd.C_below HR.out HB1.out)
  obtain ⟨i0, hi, hz0, hz1, hz2⟩ := info_parts info5
  have hl9 := lit_reads w1 _ rfl [9] (0, 0) (by decide)
  go_wp2_with (at_builtin; refine wpList_append_grows _ rfl (.tmp 16) (.tmp 17) 22 rfl 5 i0 (.int .u8 0) 1 1 Try.underlying22 hi hz0 hz1 hz2 rfl (by decide) A b.length b.length (nums .u8 b) rfl ?c1 ?c2 ?c3 ⟨w1.heap.size, 0, none⟩ 1 1 [.int .u8 9] rfl rfl ?c4 ?c5 ?c6 ?c7 ?c8 ?_)
  case c1 =>
    intro hA
    have h0 : b.length = 0 := by
      rcases Nat.eq_zero_or_pos b.length with h0 | h0
      · exact h0
      · obtain ⟨ad, he, _⟩ := HR1.out.2.2 h0
        rw [hA] at he
        cases he
    exact ⟨h0, h0⟩
  case c2 => rw [nums_length, Nat.mul_one]
  case c3 =>
    intro ad hA j u hj
    have hjl : j < b.length := by
      rcases Nat.lt_or_ge j b.length with h' | h'
      · exact h'
      · rw [List.getElem?_eq_none (by rw [nums_length]; exact h')] at hj
        cases hj
    obtain ⟨ad', he', hc⟩ := Kd.at_int (Kd.C_alloc HR1.out _) j (by omega) (by omega)
    rw [hA] at he'
    injection he' with he'
    subst he'
    rw [Int.toNat_natCast] at hc
    rw [hc]
    rw [nums, List.getElem?_map, List.getElem?_eq_getElem hjl] at hj
    simp at hj
    rw [← hj]
    simp [rd, List.getD_eq_getElem?_getD, List.getElem?_eq_getElem hjl]
  case c4 =>
    intro j u hj
    match j, hj with
    | 0, hj =>
      simp at hj
      subst hj
      obtain ⟨ad', he', hc⟩ := Kd.at_int hl9 0 (by omega) (by simp)
      injection he' with he'
      subst he'
      exact hc
  case c5 =>
    intro u hu
    simp at hu
    subst hu
    rfl
  case c6 => omega
  case c7 => unfold maxLen; omega
  case c8 => omega
  intro v2 w2 ho2 hg2
  have ho2' : w2.ownsRow (w1.heap.size + 1) 5 1 v2 (b ++ [9]).length (nums .u8 (b ++ [9])) := by
    rw [nums_append, List.length_append]
    exact ho2
  obtain ⟨A2, c2, e2, hr2⟩ := own_reads ho2'
  subst e2
  have hc2 := own_cap ho2'
  have HR2 := Aside0.mk (Kd.C_of_reads (d := (0 : Int)) (h1 := fun _ => rfl) hr2)
  have HBb : Below w.heap.size w w2 := below_step (below_alloc HB1.out _) ⟨hg2.os, hg2.tape, hg2.output, hg2.size, fun i hi => hg2.block i hi (by simp)⟩
  have HB2 := Aside0.mk HBb
  have hb12 : Aside0 (Below w1.heap.size w1 w2) := ⟨below_step (below_alloc (Below.refl _ _) _) ⟨hg2.os, hg2.tape, hg2.output, hg2.size, fun i hi => hg2.block i hi (by simp)⟩⟩
  clear HBb ho2 ho2' hg2 hr2 hl9 hi hz0 hz1 hz2 HB1
  have HC2 := Aside0.mk hc2
  clear hc2
  go_wp2_with fail
  refine (takeNum_at (b ++ [9]) _ A2 c2 n [9] 0 _ (by simp) ?hc HT.out HR2.out).mono ?_
  case hc => have := HC2.out; simp at this; exact this
  rintro e w3 ⟨v3, rfl, ho3, hb3⟩
  have HO1' := Aside0.mk (Kd.R_below HO1.out hb12.out)
  have HO3 := Aside0.mk ho3
  have HR3 := Aside0.mk (Kd.C_below HR1.out (below_step hb12.out hb3))
  have HR4 := Aside0.mk (Kd.R_below HO1'.out hb3)
  have HB3 := Aside0.mk (below_step HB2.out hb3)
  obtain ⟨A3, c3, e3⟩ := Kd.R_slice HO3.out
  subst e3
  clear ho3 hb3 HO1' hb12 HB2 HR2 HR1
  go_wp2_with fail
  refine (eqB_calls b _ _ A1 A c1 _ _ rfl rfl ?hc1 ?hc2 k HE.out ?hr1 ?hr2).mono ?_
  case hc1 => exact (Kd.R_reads' HO1.out).2.1
  case hc2 => exact Nat.le_refl _
  case hr1 => exact (Kd.R_reads' HR4.out).2.2
  case hr2 => exact HR3.out
  rintro e w4 ⟨rfl, hb4⟩
  have HB4 := Aside0.mk (below_step HB3.out hb4)
  have HO4 := Aside0.mk (Kd.R_below HO3.out hb4)
  clear hb4 HB3 HO3 HR4 HR3
  have hl9 := lit_reads w4 _ rfl [9] (0, 0) (by decide)
  have HL9 := Aside0.mk hl9
  clear hl9
  go_wp2_with fail
  refine (eqB_calls [9] _ _ A3 _ c3 _ _ rfl rfl ?hc3 ?hc4 k HE9.out ?hr3 ?hr4).mono ?_
  case hc3 => exact (Kd.R_reads' HO4.out).2.1
  case hc4 => exact Nat.le_refl _
  case hr3 => exact Kd.C_alloc (Kd.R_reads' HO4.out).2.2 _
  case hr4 => exact HL9.out
  rintro e w5 ⟨rfl, hb5⟩
  have HB5 := Aside0.mk (below_step (below_alloc HB4.out _) hb5)
  clear hb5 HB4
  go_wp2
  go_ret
  exact ⟨rfl, HB5.out⟩

/-! ### scriptoriumlaw01_works: function 17 (a leaf, by hand) -/
theorem takeStr_at (xs : List Int) (len : Nat) (A : Option Addr) (c : Nat) (most : Int) (s : ByteArray) (rest : List Int) (er : Int) (w : World) (hn : xs.length = len) (hc : len ≤ c) (h : quill_TakeStr.f xs most = some (s, rest, er)) (hr : Kd.C (Kd.int .u8) w A xs.length xs) :
    Calls Try.prog 21 #[.slice A len c, .int .i64 most] w fun e w' => ∃ v1_ : Value, e = .returned (.tuple #[.string s, v1_, .int .i64 er]) ∧ Kd.R (Kd.int .u8) 5 w' w.heap.size (fun _ => True) v1_ rest ∧ Below w.heap.size w w' := by
  subst hn
  exact quill_TakeStr.calls A c xs most s rest er w hr hc h
def scriptoriumlaw01_works.f : Option (Bool) := some true
set_option maxHeartbeats 16000000 in
set_option maxRecDepth 100000 in
theorem scriptoriumlaw01_works.calls (r : Bool) (w : World) (h : scriptoriumlaw01_works.f = some r) :
    Calls Try.prog 17 #[] w fun e w' => e = .returned (.bool r) ∧ Below w.heap.size w w' := by
  obtain rfl := Option.some.inj h
  go_enter Try.func17, Try.ntmps17
  have HB0 := Aside0.mk (Below.refl w.heap.size w)
  go_wp2_with fail
  refine (quill_Str.calls 20 (⟨#[97, 98]⟩ : ByteArray) (2) [1, 2, 97, 98] 0 _ (by kernel_rfl)).mono ?_
  rintro e w1 ⟨v0, rfl, ho, hb⟩
  have HB1 := Aside0.mk (below_step HB0.out hb)
  clear HB0 hb
  have HOp := Aside0.mk ho
  clear ho
  obtain ⟨Ap, cp, ep⟩ := Kd.R_slice HOp.out
  subst ep
  have HL := Aside0.mk (lit_reads w1 _ rfl [1, 2, 97, 98, 99] (0, 0) (by decide))
  go_wp2_with fail
  refine (takeStr_at [1, 2, 97, 98, 99] 5 _ _ (2) (⟨#[97, 98]⟩ : ByteArray) [99] 0 _ rfl (Nat.le_refl _) (by kernel_rfl) HL.out).mono ?_
  rintro e w2 ⟨v1, rfl, ho, hb⟩
  have HB2 := Aside0.mk (below_step (below_alloc HB1.out _) hb)
  replace HOp := Aside0.mk (Kd.R_below (Kd.R_alloc HOp.out _) hb)
  clear HB1 hb HL
  have HOq := Aside0.mk ho
  clear ho
  obtain ⟨Aq, cq, eq⟩ := Kd.R_slice HOq.out
  subst eq
  have HL := Aside0.mk (lit_reads w2 _ rfl [0] (0, 0) (by decide))
  go_wp2_with fail
  refine (is_true 20 0 [0] _ 1 _ rfl (by decide) HL.out (by kernel_rfl) (by kernel_rfl) (by kernel_rfl) (by kernel_rfl)).mono ?_
  rintro e w3 ⟨rfl, hb⟩
  have HB3 := Aside0.mk (below_step (below_alloc HB2.out _) hb)
  replace HOp := Aside0.mk (Kd.R_below (Kd.R_alloc HOp.out _) hb)
  replace HOq := Aside0.mk (Kd.R_below (Kd.R_alloc HOq.out _) hb)
  clear HB2 hb HL
  have HL := Aside0.mk (lit_reads w3 _ rfl [1, 1] (0, 0) (by decide))
  go_wp2_with fail
  refine (is_true 20 1 [1, 1] _ 2 _ rfl (by decide) HL.out (by kernel_rfl) (by kernel_rfl) (by kernel_rfl) (by kernel_rfl)).mono ?_
  rintro e w4 ⟨rfl, hb⟩
  have HB4 := Aside0.mk (below_step (below_alloc HB3.out _) hb)
  replace HOp := Aside0.mk (Kd.R_below (Kd.R_alloc HOp.out _) hb)
  replace HOq := Aside0.mk (Kd.R_below (Kd.R_alloc HOq.out _) hb)
  clear HB3 hb HL
  have HL := Aside0.mk (lit_reads w4 _ rfl [2, 1, 0] (0, 0) (by decide))
  go_wp2_with fail
  refine (is_true 20 256 [2, 1, 0] _ 3 _ rfl (by decide) HL.out (by kernel_rfl) (by kernel_rfl) (by kernel_rfl) (by kernel_rfl)).mono ?_
  rintro e w5 ⟨rfl, hb⟩
  have HB5 := Aside0.mk (below_step (below_alloc HB4.out _) hb)
  replace HOp := Aside0.mk (Kd.R_below (Kd.R_alloc HOp.out _) hb)
  replace HOq := Aside0.mk (Kd.R_below (Kd.R_alloc HOq.out _) hb)
  clear HB4 hb HL
  have HL := Aside0.mk (lit_reads w5 _ rfl [1, 2, 97, 98] (0, 0) (by decide))
  go_wp2_with fail
  refine (eqB_calls [1, 2, 97, 98] _ _ _ _ _ _ _ rfl rfl (Kd.R_reads' HOp.out).2.1 (Nat.le_refl _) 20 (by kernel_rfl) (Kd.C_alloc (Kd.R_reads' HOp.out).2.2 _) HL.out).mono ?_
  rintro e w6 ⟨rfl, hb⟩
  have HB6 := Aside0.mk (below_step (below_alloc HB5.out _) hb)
  replace HOp := Aside0.mk (Kd.R_below (Kd.R_alloc HOp.out _) hb)
  replace HOq := Aside0.mk (Kd.R_below (Kd.R_alloc HOq.out _) hb)
  clear HB5 hb HL
  have HL := Aside0.mk (lit_reads w6 _ rfl [99] (0, 0) (by decide))
  go_wp2_with fail
  refine (eqB_calls [99] _ _ _ _ _ _ _ rfl rfl (Kd.R_reads' HOq.out).2.1 (Nat.le_refl _) 20 (by kernel_rfl) (Kd.C_alloc (Kd.R_reads' HOq.out).2.2 _) HL.out).mono ?_
  rintro e w7 ⟨rfl, hb⟩
  have HB7 := Aside0.mk (below_step (below_alloc HB6.out _) hb)
  replace HOp := Aside0.mk (Kd.R_below (Kd.R_alloc HOp.out _) hb)
  replace HOq := Aside0.mk (Kd.R_below (Kd.R_alloc HOq.out _) hb)
  clear HB6 hb HL
  go_wp2
  go_ret
  exact ⟨rfl, HB7.out⟩

end Go.Proofs.Ytclbcmblgbinpaa.PQuillNum
