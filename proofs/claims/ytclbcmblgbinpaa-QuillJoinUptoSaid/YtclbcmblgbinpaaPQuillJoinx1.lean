/- Written by xprint.py, a program of these sessions (over the print of the kit, with leaves typed by hand): one Lean function for each Go function, and the proof that the Go code comes to its answers. -/
import Derived.Test.YtclbcmblgbinpaaPQuillJoinx0
namespace Go.Proofs.Ytclbcmblgbinpaa.PQuillJoin
open Go.RowKit Go.Proofs.YtclbcmblgbinpaaW.PrintWords Go.Proofs.YtclbcmblgbinpaaW.PrintLast Go.Proofs.YtclbcmblgbinpaaW.PrintMore
attribute [local go_sem] max2_int min2_int max_two min_two max_three min_three max_four min_four   -- for this text's walks alone
set_option linter.unusedVariables false
set_option linter.unusedSimpArgs false

/-! ### scriptoriumref00_EqBytes: function 16 -/
def scriptoriumref00_EqBytes.l0 : Nat → List Int → List Int → Int → Option (Bool)
  | 0, _, _, _ => none
  | k + 1, x0, x1, x5 => if x5 < (x0.length : Int) then (if 0 ≤ x5 then (if x5 < (x1.length : Int) then (if (rd x0 x5) = (rd x1 x5) then (scriptoriumref00_EqBytes.l0 k x0 x1 (wrap64 (x5 + 1))) else (some false)) else (none)) else (none)) else (some true)
def scriptoriumref00_EqBytes.f (k : Nat) (l0 : List Int) (l1 : List Int) : Option (Bool) := if (l0.length : Int) = (l1.length : Int) then (scriptoriumref00_EqBytes.l0 k l0 l1 0) else (some false)
theorem scriptoriumref00_EqBytes.mono_l : ∀ k, (∀ y0 y1 y2, LeO (scriptoriumref00_EqBytes.l0 k y0 y1 y2) (scriptoriumref00_EqBytes.l0 (k + 1) y0 y1 y2))
  | 0 => fun _ _ _ r h => by simp [scriptoriumref00_EqBytes.l0] at h
  | k + 1 => by
    have ih0 := scriptoriumref00_EqBytes.mono_l k
    · intro y0 y1 y2
      unfold scriptoriumref00_EqBytes.l0
      repeat' first
      | (with_reducible exact ih0 _ _ _)
      | (with_reducible exact LeO.refl _)
      | (with_reducible exact LeO.none _)
      | (with_reducible refine LeO.ite ?_ ?_)
      | (with_reducible refine LeO.bind ?_ (fun _ => ?_))
      | exact ih0 _ _ _
      | exact LeO.none _
      | refine LeO.ite ?_ ?_
      | refine LeO.bind ?_ (fun _ => ?_)
theorem scriptoriumref00_EqBytes.mono : ∀ a0 a1 k, LeO (scriptoriumref00_EqBytes.f k a0 a1) (scriptoriumref00_EqBytes.f (k + 1) a0 a1) := by
  intro a0 a1 k
  have ih0 := scriptoriumref00_EqBytes.mono_l k
  unfold scriptoriumref00_EqBytes.f
  repeat' first
      | (with_reducible exact ih0 _ _ _)
      | (with_reducible exact LeO.refl _)
      | (with_reducible exact LeO.none _)
      | (with_reducible refine LeO.ite ?_ ?_)
      | (with_reducible refine LeO.bind ?_ (fun _ => ?_))
      | exact ih0 _ _ _
      | exact LeO.none _
      | refine LeO.ite ?_ ?_
      | refine LeO.bind ?_ (fun _ => ?_)
set_option maxHeartbeats 8000000 in
set_option maxRecDepth 100000 in
theorem scriptoriumref00_EqBytes.calls (k : Nat) (A0 : Option Addr) (c0 : Nat) (l0 : List Int) (A1 : Option Addr) (c1 : Nat) (l1 : List Int) (r : Bool) (w : World) (hr0 : Kd.C (Kd.int .u8) w A0 l0.length l0) (hc0 : l0.length ≤ c0) (hr1 : Kd.C (Kd.int .u8) w A1 l1.length l1) (hc1 : l1.length ≤ c1) (h : scriptoriumref00_EqBytes.f k l0 l1 = some r) :
    Calls Try.prog 16 #[.slice A0 l0.length c0, .slice A1 l1.length c1] w fun e w' => e = .returned (.bool r) ∧ Drawn0 w w' := by
  have HR0 := Aside0.mk hr0
  have HC0 := Aside0.mk hc0
  clear hr0 hc0
  have HR1 := Aside0.mk hr1
  have HC1 := Aside0.mk hc1
  clear hr1 hc1
  have H : (if (l0.length : Int) = (l1.length : Int) then (scriptoriumref00_EqBytes.l0 k l0 l1 0) else (some false)) = some r := h
  clear h
  by_cases c3 : (l0.length : Int) = (l1.length : Int)
  · rw [if_pos c3] at H
    have c3b0 : ((l0.length : Int) == (l1.length : Int)) = true := beq_iff_eq.mpr c3
    have c3b1 : ((l0.length : Int) != (l1.length : Int)) = false := bne_eq_false_iff_eq.mpr c3
    have c3b2 : (l0.length == l1.length) = true := by first | simpa using c3 | (simp at c3 ⊢; omega)
    clear c3
    have H' := Aside0.mk H
    clear H
    go_enter Try.func16, Try.ntmps16
    go_wp2
    repeat (go_quiet (fail); try go_wp2)
    go_loopg [5] k (fun kq v5 w' => ∃ (x5_1 : Int), v5 = .int .i64 x5_1 ∧ Aside0 (scriptoriumref00_EqBytes.l0 kq l0 l1 x5_1 = some r) ∧ Aside0 (kq ≤ k) ∧ Drawn0 w w')
    case atStart => exact ⟨(0), (by first | rfl | (simp; done) | (simp [*]; done)), H', ⟨Nat.le_refl _⟩, by repeat (first | exact Drawn0.refl _ | apply Drawn0.step)⟩
    case round =>
      clear H'
      try clear c1
      try clear p2
      try clear c3
      try clear c3b0
      try clear c3b1
      try clear c3b2
      obtain ⟨x5_1, rfl, HA, HK1, ⟨m1, rfl⟩⟩ := hrel
      cases gk with
      | zero => exact absurd HA.out (by simp [scriptoriumref00_EqBytes.l0])
      | succ k1 =>
        have H := HA.out
        clear HA
        simp only [scriptoriumref00_EqBytes.l0] at H
        by_cases c4 : x5_1 < (l0.length : Int)
        · rw [if_pos c4] at H
          have c4b0 : decide (x5_1 < (l0.length : Int)) = true := decide_eq_true c4
          clear c4
          by_cases c5 : 0 ≤ x5_1
          · rw [if_pos c5] at H
            have c5b0 : decide (0 ≤ x5_1) = true := decide_eq_true c5
            clear c5
            by_cases c6 : x5_1 < (l1.length : Int)
            · rw [if_pos c6] at H
              have c6b0 : decide (x5_1 < (l1.length : Int)) = true := decide_eq_true c6
              clear c6
              by_cases c7 : (rd l0 x5_1) = (rd l1 x5_1)
              · rw [if_pos c7] at H
                have c7b0 : ((rd l0 x5_1) == (rd l1 x5_1)) = true := beq_iff_eq.mpr c7
                have c7b1 : ((rd l0 x5_1) != (rd l1 x5_1)) = false := bne_eq_false_iff_eq.mpr c7
                clear c7
                have H' := Aside0.mk H
                clear H
                have p101 : 0 ≤ (x5_1 : Int) := of_decide_eq_true (by first | (with_reducible assumption) | assumption)
                have q101 : x5_1 < (l0.length : Int) := of_decide_eq_true (by first | (with_reducible assumption) | assumption)
                obtain ⟨ad101, e101, hx101_0⟩ := Kd.at_int HR0.out x5_1 p101 q101
                cases e101
                replace p101 := eq_true p101
                replace q101 := eq_true q101
                have p102 : 0 ≤ (x5_1 : Int) := of_decide_eq_true (by first | (with_reducible assumption) | assumption)
                have q102 : x5_1 < (l1.length : Int) := of_decide_eq_true (by first | (with_reducible assumption) | assumption)
                obtain ⟨ad102, e102, hx102_0⟩ := Kd.at_int HR1.out x5_1 p102 q102
                cases e102
                replace p102 := eq_true p102
                replace q102 := eq_true q102
                go_wp2
                repeat (go_quiet (fail); try go_wp2)
                go_roundg k1
                case measure => have := HK1.out; omega
                case rel => exact ⟨(wrap64 (x5_1 + 1)), (by first | rfl | (simp; done) | (simp [*]; done)), H', ⟨by have := HK1.out; omega⟩, by repeat (first | exact Drawn0.refl _ | apply Drawn0.step)⟩
              · rw [if_neg c7] at H
                have c7b0 : ((rd l0 x5_1) == (rd l1 x5_1)) = false := beq_eq_false_iff_ne.mpr c7
                have c7b1 : ((rd l0 x5_1) != (rd l1 x5_1)) = true := bne_iff_ne.mpr c7
                obtain rfl := Option.some.inj H
                have p101 : 0 ≤ (x5_1 : Int) := of_decide_eq_true (by first | (with_reducible assumption) | assumption)
                have q101 : x5_1 < (l0.length : Int) := of_decide_eq_true (by first | (with_reducible assumption) | assumption)
                obtain ⟨ad101, e101, hx101_0⟩ := Kd.at_int HR0.out x5_1 p101 q101
                cases e101
                replace p101 := eq_true p101
                replace q101 := eq_true q101
                have p102 : 0 ≤ (x5_1 : Int) := of_decide_eq_true (by first | (with_reducible assumption) | assumption)
                have q102 : x5_1 < (l1.length : Int) := of_decide_eq_true (by first | (with_reducible assumption) | assumption)
                obtain ⟨ad102, e102, hx102_0⟩ := Kd.at_int HR1.out x5_1 p102 q102
                cases e102
                replace p102 := eq_true p102
                replace q102 := eq_true q102
                go_wp2
                repeat (go_quiet (fail); try go_wp2)
                go_ret
                exact ⟨by first | rfl | (simp; done) | (simp [*]; done), by repeat (first | exact Drawn0.refl _ | apply Drawn0.step)⟩
            · rw [if_neg c6] at H
              exact absurd H (by simp)
          · rw [if_neg c5] at H
            exact absurd H (by simp)
        · rw [if_neg c4] at H
          have c4b0 : decide (x5_1 < (l0.length : Int)) = false := decide_eq_false c4
          clear c4
          obtain rfl := Option.some.inj H
          go_wp2
          repeat (go_quiet (fail); try go_wp2)
          go_ret
          exact ⟨by first | rfl | (simp; done) | (simp [*]; done), by repeat (first | exact Drawn0.refl _ | apply Drawn0.step)⟩
  · rw [if_neg c3] at H
    have c3b0 : ((l0.length : Int) == (l1.length : Int)) = false := beq_eq_false_iff_ne.mpr c3
    have c3b1 : ((l0.length : Int) != (l1.length : Int)) = true := bne_iff_ne.mpr c3
    have c3b2 : (l0.length == l1.length) = false := by first | simpa using c3 | (simp at c3 ⊢; omega)
    obtain rfl := Option.some.inj H
    go_enter Try.func16, Try.ntmps16
    go_wp2
    repeat (go_quiet (fail); try go_wp2)
    go_ret
    exact ⟨by first | rfl | (simp; done) | (simp [*]; done), by repeat (first | exact Drawn0.refl _ | apply Drawn0.step)⟩

/-! ### quill_take: function 34 (a leaf, by hand) -/
/-- What 'take' answers: a number, where the rest lies, what is wrong. -/
def TakeEnd (q : Int × List Int × Int) (w : World) (e : Ending) (w' : World) : Prop :=
  ∃ (A : Option Addr) (c : Nat), e = .returned (.tuple #[.int .i64 q.1, .slice A q.2.1.length c, .int .i64 q.2.2]) ∧ Kd.C (Kd.int .u8) w A q.2.1.length q.2.1 ∧ q.2.1.length ≤ c ∧ Drawn0 w w'
theorem rd_cons (b : Int) (t : List Int) : rd (b :: t) 0 = b := rfl
set_option maxHeartbeats 8000000 in
set_option maxRecDepth 100000 in
theorem quill_take.calls_none (A0 : Option Addr) (c0 : Nat) (w : World) : Calls Try.prog 34 #[.slice A0 0 c0] w (TakeEnd (0, [], 3) w) := by
  go_enter Try.func34, Try.ntmps34
  go_wp2
  go_ret3
  exact ⟨none, 0, rfl, Kd.C_nil _ _, Nat.le_refl _, Drawn0.refl _⟩
set_option maxHeartbeats 8000000 in
set_option maxRecDepth 100000 in
theorem quill_take.calls_many (A0 : Option Addr) (c0 : Nat) (b : Int) (t : List Int) (w : World) (hr0 : Kd.C (Kd.int .u8) w A0 (b :: t).length (b :: t)) (h7 : 7 < b) :
    Calls Try.prog 34 #[.slice A0 (b :: t).length c0] w (TakeEnd (0, [], 4) w) := by
  obtain ⟨l0, hl0⟩ : ∃ l0, l0 = b :: t := ⟨_, rfl⟩
  rw [← hl0] at hr0 ⊢
  have hb : rd l0 0 = b := by rw [hl0]; rfl
  have hlen : 0 < l0.length := by rw [hl0]; exact Nat.succ_pos _
  obtain ⟨ad, e104, hx⟩ := Kd.at_int hr0 0 (by omega) (by omega)
  cases e104
  rw [hb, show ((0 : Int)).toNat = 0 from rfl, Addr.add_zero'] at hx
  have hz : ((l0.length : Int) == 0) = false := by rw [beq_eq_false_iff_ne]; omega
  clear hb hl0 hr0
  go_enter Try.func34, Try.ntmps34
  go_wp2
  go_ret3
  exact ⟨none, 0, rfl, Kd.C_nil _ _, Nat.le_refl _, Drawn0.refl _⟩
set_option maxHeartbeats 8000000 in
set_option maxRecDepth 100000 in
theorem quill_take.calls_short (A0 : Option Addr) (c0 : Nat) (m : Nat) (t : List Int) (w : World) (hr0 : Kd.C (Kd.int .u8) w A0 ((m : Int) :: t).length ((m : Int) :: t)) (h7 : m ≤ 7) (hs : t.length < m) :
    Calls Try.prog 34 #[.slice A0 ((m : Int) :: t).length c0] w (TakeEnd (0, [], 3) w) := by
  obtain ⟨l0, hl0⟩ : ∃ l0, l0 = (m : Int) :: t := ⟨_, rfl⟩
  rw [← hl0] at hr0 ⊢
  have hb : rd l0 0 = (m : Int) := by rw [hl0]; rfl
  have hlen : 0 < l0.length := by rw [hl0]; exact Nat.succ_pos _
  have hlt : l0.length = t.length + 1 := by rw [hl0]; rfl
  have hs2 : l0.length ≤ m := by omega
  obtain ⟨ad, e104, hx⟩ := Kd.at_int hr0 0 (by omega) (by omega)
  cases e104
  rw [hb, show ((0 : Int)).toNat = 0 from rfl, Addr.add_zero'] at hx
  have hz : ((l0.length : Int) == 0) = false := by rw [beq_eq_false_iff_ne]; omega
  clear hb hl0 hr0 hlt hs
  go_enter Try.func34, Try.ntmps34
  go_wp2
  go_ret3
  exact ⟨none, 0, rfl, Kd.C_nil _ _, Nat.le_refl _, Drawn0.refl _⟩
theorem qNum_take_step (own : List Int) (h : Byts own) (h7 : own.length ≤ 7) (k : Nat) (hk : k < own.length) :
    Go.bits .or .i64 (wrap64 (qNum (own.take k) * 256)) (wrap64 (rd own k)) = qNum (own.take (k + 1)) := by
  have hb := qNum_bd (own.take k) (h.take k)
  have hl : (own.take k).length = k := by rw [List.length_take]; omega
  rw [hl] at hb
  have hp : (256 : Int) ^ k ≤ 256 ^ 6 := by
    have h : ∀ j : Fin 7, (256 : Int) ^ (j : Nat) ≤ 256 ^ 6 := by decide
    exact h ⟨k, by omega⟩
  have hp6 : (256 : Int) ^ 6 = 281474976710656 := rfl
  have hc := h own[k] (List.getElem_mem hk)
  have hr : rd own k = own[k] := by simp [rd, List.getD_eq_getElem?_getD, List.getElem?_eq_getElem hk]
  rw [List.take_succ_eq_append_getElem hk, qNum_snoc, hr]
  have hw : wrap64 (qNum (own.take k) * 256) = qNum (own.take k) * 256 := by unfold wrap64; omega
  have hw2 : wrap64 own[k] = own[k] := by unfold wrap64; omega
  rw [hw, hw2]
  exact or_shift _ _ hb.1 (by omega) hc.1 hc.2
set_option maxHeartbeats 8000000 in
set_option maxRecDepth 100000 in
theorem quill_take.calls_whole (A0 : Option Addr) (c0 : Nat) (m : Nat) (t : List Int) (w : World) (hB : Byts ((m : Int) :: t)) (hr0 : Kd.C (Kd.int .u8) w A0 ((m : Int) :: t).length ((m : Int) :: t)) (hc0 : ((m : Int) :: t).length ≤ c0) (h7 : m ≤ 7) (hs : m ≤ t.length) :
    Calls Try.prog 34 #[.slice A0 ((m : Int) :: t).length c0] w (TakeEnd (qTake ((m : Int) :: t)) w) := by
  obtain ⟨l0, hl0⟩ : ∃ l0, l0 = (m : Int) :: t := ⟨_, rfl⟩
  obtain ⟨own, hown⟩ : ∃ own, own = t.take m := ⟨_, rfl⟩
  obtain ⟨rest, hrt⟩ : ∃ rest, rest = t.drop m := ⟨_, rfl⟩
  have hq : qTake ((m : Int) :: t) = if own.head? = some 0 ∨ 9007199254740991 < qNum own then (0, [], 4) else (qNum own, rest, 0) := by
    rw [qTake_cons, if_neg (by omega), if_neg (by omega), Int.toNat_natCast, ← hown, ← hrt]
  obtain ⟨q, hqq⟩ : ∃ q, q = qTake ((m : Int) :: t) := ⟨_, rfl⟩
  rw [← hqq] at hq ⊢
  have HQ := Aside0.mk hq
  clear hq hqq
  have hBo : Aside0 (Byts own) := ⟨by rw [hown]; exact hB.tail.take m⟩
  have hol : own.length = m := by rw [hown, List.length_take]; omega
  have ho0 : (l0.take (1 + (m : Int)).toNat).drop (1 : Int).toNat = own := by
    rw [hl0, hown]
    have : (1 + (m : Int)).toNat = m + 1 := by omega
    rw [this]
    rfl
  have hrest : l0.drop (1 + (m : Int)).toNat = rest := by
    rw [hl0, hrt]
    have : (1 + (m : Int)).toNat = m + 1 := by omega
    rw [this]
    rfl
  rw [← hl0] at hr0 hc0 ⊢
  have hb : rd l0 0 = (m : Int) := by rw [hl0]; rfl
  have hlt : l0.length = t.length + 1 := by rw [hl0]; rfl
  obtain ⟨i01, hi01, _, hsz1, _⟩ := info_parts info5
  obtain ⟨A1, hcut1, hA1, hC1⟩ := print_mid3_of (P := Try.prog) (Value.int .u8) 0 22 5 .i64 .i64 .i64 Try.underlying22 hi01 hsz1 A0 c0 l0 1 (1 + (m : Int)) (by omega) (by omega) (by omega) hc0
  obtain ⟨A2, hcut2, hA2, hC2⟩ := print_drop_of (P := Try.prog) (Value.int .u8) 0 22 5 .i64 Try.underlying22 hi01 hsz1 A0 c0 l0 (1 + (m : Int)) (by omega) (by omega) hc0
  rw [ho0] at hcut1 hC1
  rw [hrest] at hcut2 hC2
  have HR1 : Aside0 (Kd.C (Kd.int .u8) w A1 own.length own) := ⟨by
    have := Kd.C_of_reads (h1 := fun _ => rfl) (hA1 w (Kd.reads_of_C hr0))
    rw [ho0] at this
    exact this⟩
  have HR2 : Aside0 (Kd.C (Kd.int .u8) w A2 rest.length rest) := ⟨by
    have := Kd.C_of_reads (h1 := fun _ => rfl) (hA2 w (Kd.reads_of_C hr0))
    rw [hrest] at this
    exact this⟩
  have HC2 := Aside0.mk hC2
  clear hA1 hA2 hC1 hC2 hi01 hsz1
  obtain ⟨ad, e104, hx⟩ := Kd.at_int hr0 0 (by omega) (by omega)
  cases e104
  rw [hb, show ((0 : Int)).toNat = 0 from rfl, Addr.add_zero'] at hx
  have hz : ((l0.length : Int) == 0) = false := by rw [beq_eq_false_iff_ne]; omega
  have hs2 : m + 1 ≤ l0.length := by omega
  have hmax : l0.length ≤ 9223372036854775807 := by have := Kd.C_max hr0; omega
  have hol1 : own.length ≤ 7 := by omega
  have b1 : decide ((7 : Int) < (m : Int)) = false := decide_eq_false (by omega)
  have b2 : decide ((l0.length : Int) - 1 < (m : Int)) = false := decide_eq_false (by omega)
  have b3 : 1 + (m : Int) ≤ (c0 : Int) := by omega
  have HOL := Aside0.mk hol
  clear hb hl0 hr0 hlt hs ho0 hrest hown hrt hB hol
  go_enter Try.func34, Try.ntmps34
  go_wp2_with fail
  go_loopg [2, 38] own.length (fun kq v2 v38 w' => ∃ (k : Nat), v2 = .int .i64 (qNum (own.take k)) ∧ v38 = .int .i64 k ∧ Aside0 (kq + k = own.length) ∧ Drawn0 w w')
  case atStart => exact ⟨0, rfl, rfl, ⟨rfl⟩, Drawn0.refl _⟩
  case round =>
    obtain ⟨k, rfl, rfl, HK, ⟨m1, rfl⟩⟩ := hrel
    cases gk with
    | succ k1 =>
      have hk : k < own.length := by have := HK.out; omega
      have hkb : decide (k < own.length) = true := decide_eq_true hk
      obtain ⟨ad1, e105, hx1⟩ := Kd.at_int HR1.out k (by omega) (by omega)
      cases e105
      simp only [Int.toNat_natCast] at hx1
      have HS := Aside0.mk (qNum_take_step own hBo.out hol1 k hk)
      go_wp2
      go_roundg k1
      case measure => omega
      case rel => exact ⟨k + 1, by rw [← HS.out], by go_num, ⟨by have := HK.out; omega⟩, by repeat (first | exact Drawn0.refl _ | apply Drawn0.step)⟩
    | zero =>
      have hk : k = own.length := by have := HK.out; omega
      have hkb : decide (k < own.length) = false := decide_eq_false (by omega)
      have hkq : qNum (own.take k) = qNum own := by rw [hk, List.take_length]
      rw [hkq]
      clear hkq HK hk
      have hx9 : (1 + (m : Int)).toNat = m + 1 := by omega
      rw [hx9] at HC2 hcut2
      clear hx9
      by_cases hown0 : own.length = 0
      · have hnil : own = [] := List.length_eq_zero_iff.1 hown0
        have hq := HQ.out
        rw [if_neg (by rw [hnil]; rintro (h | h); · cases h
                       · revert h; decide)] at hq
        have HQ1 := Aside0.mk hq
        have hlz : decide ((0 : Int) < (own.length : Int)) = false := decide_eq_false (by omega)
        have hlz2 : decide (0 < own.length) = false := decide_eq_false (by omega)
        have hqz : Aside0 (qNum own = 0) := ⟨by rw [hnil]; rfl⟩
        have hbg : decide (9007199254740991 < qNum own) = false := decide_eq_false (by have := hqz.out; omega)
        clear hq HQ hnil hown0 hqz
        go_wp2
        go_quiet (fail)
        go_wp2
        go_ret3
        exact ⟨_, _, by rw [HQ1.out]; rfl, by rw [HQ1.out]; exact HR2.out, by rw [HQ1.out]; exact HC2.out, by repeat (first | exact Drawn0.refl _ | apply Drawn0.step)⟩
      · have hlp : 0 < own.length := by omega
        obtain ⟨ad2, e106, hx2⟩ := Kd.at_int HR1.out 0 (by omega) (by omega)
        cases e106
        rw [show ((0 : Int)).toNat = 0 from rfl, Addr.add_zero'] at hx2
        have hlz : decide ((0 : Int) < (own.length : Int)) = true := decide_eq_true (by omega)
        have hlz2 : decide (0 < own.length) = true := decide_eq_true (by omega)
        have hhead : own.head? = some (rd own 0) := by
          cases own with
          | nil => cases hlp
          | cons x own1 => rfl
        obtain ⟨x, hx⟩ : ∃ x, x = rd own 0 := ⟨_, rfl⟩
        rw [← hx] at hhead hx2
        clear hx hown0
        by_cases hx0 : x = 0
        · have hq := HQ.out
          rw [if_pos (.inl (by rw [hhead, hx0]))] at hq
          have HQ1 := Aside0.mk hq
          have hxb : ((x : Int) == 0) = true := by rw [hx0]; rfl
          clear hq HQ hhead hx0
          go_wp2
          go_ret3
          exact ⟨none, 0, by rw [HQ1.out]; rfl, by rw [HQ1.out]; exact Kd.C_nil _ _, by rw [HQ1.out]; exact Nat.le_refl _, by repeat (first | exact Drawn0.refl _ | apply Drawn0.step)⟩
        · have hxb : ((x : Int) == 0) = false := by rw [beq_eq_false_iff_ne]; exact hx0
          by_cases hbig : 9007199254740991 < qNum own
          · have hq := HQ.out
            rw [if_pos (.inr hbig)] at hq
            have HQ1 := Aside0.mk hq
            have hbg : decide (9007199254740991 < qNum own) = true := decide_eq_true hbig
            clear hq HQ hhead hx0
            go_wp2
            go_ret3
            exact ⟨none, 0, by rw [HQ1.out]; rfl, by rw [HQ1.out]; exact Kd.C_nil _ _, by rw [HQ1.out]; exact Nat.le_refl _, by repeat (first | exact Drawn0.refl _ | apply Drawn0.step)⟩
          · have hq := HQ.out
            rw [if_neg (by rw [hhead]; rintro (h | h); · exact hx0 (by simpa using h)
                           · exact hbig h)] at hq
            have HQ1 := Aside0.mk hq
            have hbg : decide (9007199254740991 < qNum own) = false := decide_eq_false hbig
            clear hq HQ hhead hx0
            go_wp2
            go_quiet (fail)
            go_wp2
            go_ret3
            exact ⟨_, _, by rw [HQ1.out]; rfl, by rw [HQ1.out]; exact HR2.out, by rw [HQ1.out]; exact HC2.out, by repeat (first | exact Drawn0.refl _ | apply Drawn0.step)⟩
/-- The whole of it. -/
theorem quill_take.calls (A0 : Option Addr) (c0 : Nat) (l0 : List Int) (w : World) (hB : Byts l0) (hr0 : Kd.C (Kd.int .u8) w A0 l0.length l0) (hc0 : l0.length ≤ c0) :
    Calls Try.prog 34 #[.slice A0 l0.length c0] w (TakeEnd (qTake l0) w) := by
  cases l0 with
  | nil => exact quill_take.calls_none A0 c0 w
  | cons b t =>
    have hb := hB b (by simp)
    by_cases h7 : 7 < b
    · have e : qTake (b :: t) = (0, [], 4) := by rw [qTake_cons, if_pos h7]
      rw [e]
      exact quill_take.calls_many A0 c0 b t w hr0 h7
    · obtain ⟨m, rfl⟩ := Int.eq_ofNat_of_zero_le hb.1
      by_cases hs : t.length < m
      · have e : qTake ((m : Int) :: t) = (0, [], 3) := by rw [qTake_cons, if_neg h7, if_pos (by omega)]
        rw [e]
        exact quill_take.calls_short A0 c0 m t w hr0 (by omega) hs
      · exact quill_take.calls_whole A0 c0 m t w hB hr0 hc0 (by omega) (by omega)

/-! ### slices_Clone_byte_byte: function 35 (a leaf, by hand) -/
def slices_Clone_byte_byte.f (l0 : List Int) : Option (List Int) := if l0.length < 140737488355328 then (some l0) else (none)
set_option maxHeartbeats 8000000 in
set_option maxRecDepth 100000 in
theorem slices_Clone_byte_byte.calls (A0 : Option Addr) (c0 : Nat) (l0 : List Int) (r : List Int) (w : World) (hr0 : Kd.C (Kd.int .u8) w A0 l0.length l0) (hc0 : l0.length ≤ c0) (h : slices_Clone_byte_byte.f l0 = some r) :
    Calls Try.prog 35 #[.slice A0 l0.length c0] w fun e w' => ∃ v0_ : Value, e = .returned (v0_) ∧ Kd.R (Kd.int .u8) 5 w' w.heap.size (fun _ => True) v0_ r ∧ Below w.heap.size w w' := by
  have HR0 := Aside0.mk hr0
  have HC0 := Aside0.mk hc0
  clear hr0 hc0
  have HB := Aside0.mk (Below.refl w.heap.size w)
  have H : (if l0.length < 140737488355328 then (some l0) else (none)) = some r := h
  clear h
  by_cases c2 : l0.length < 140737488355328
  · rw [if_pos c2] at H
    have LM := Aside0.mk c2
    clear c2
    obtain rfl := Option.some.inj H
    clear H
    have qT : ∀ (w : World) (a : Option Addr) (n c n' c' : Nat), (binOp .eql 22 (.slice a n c) (.slice none n' c')).run Try.prog w = .ok (.bool a.isNone) w := fun w a n c n' c' => Lib.run_eql_slice_nil w _ _ a n c n' c' Try.underlying22
    cases A0 with
    | none =>
      have h0 : l0.length = 0 := by
        rcases Nat.eq_zero_or_pos l0.length with h0 | h0
        · exact h0
        · obtain ⟨ad, he, _⟩ := HR0.out.2.2 h0
          cases he
      obtain rfl : l0 = [] := List.length_eq_zero_iff.1 h0
      go_enter Try.func35, Try.ntmps35
      go_wp2
      go_ret
      exact ⟨_, rfl, Kd.R_nil _ _ _ _ _, HB.out⟩
    | some a =>
      go_enter Try.func35, Try.ntmps35
      go_wp2_with (first | ((with_reducible refine gate_dst (N := 5) rfl ?_); (try (refine gate_guard (by rfl) ?_; dsimp only)); refine Kd.R_lit (Kd.int .u8) _ 5 ?hg (N := 5) ?hd (xs := ([] : List Int)) (inner := []) (ok := fun _ => True) (okp := fun _ => True) ?hr ?hp (fun _ hk => hk) trivial (Below.refl _ _) (Nat.le_refl _) (by simp) ?_; (case hd => rfl); (case hg => rfl); (case hr => first | (go_simp; done) | (go_simp; rfl)); (case hp => exact (Reps.none _ _)); intro v1 w1 ho1 hb1 hg1 hn1; clear hg1 hn1; have HO1 := Aside0.mk ho1; have HB1 := Aside0.mk hb1; clear ho1 hb1; obtain ⟨Ao, co, eo⟩ := Kd.R_slice HO1.out; subst eo) | ((with_reducible refine gate_builtin (b := .append) (xs := #[.tmp 5, .tmp 6]) rfl ?_); at_builtin; refine Kd.R_append_rows (Kd.int .u8) (w0 := w) w.heap.size rfl (.tmp 5) (.tmp 6) 22 5 (.int .u8 0) 1 rfl Try.underlying22 info5 rfl (by decide) (by omega) (.slice Ao ([] : List Int).length co) ([] : List Int) l0 _ _ _ (fun _ => True) (fun _ => False) rfl rfl ?aO ?aR (fun _ _ h => h) (fun _ h => h.elim) ?aF ?aB ?aS ?aL ?_; (case aR => exact Kd.C_below HR0.out HB1.out); (case aB => exact HB1.out); (case aF => exact (fun _ _ => trivial)); (case aO => exact HO1.out); (case aS => exact below_size HB1.out); (case aL => have := LM.out; simp; omega); intro v2 w2 ho2 hb2 hg2 hat2; have HO2 := Aside0.mk ho2; have HB2 := Aside0.mk hb2; clear ho2 hb2 hg2 hat2))
      go_ret
      exact ⟨_, rfl, HO2.out, HB2.out⟩
  · rw [if_neg c2] at H
    exact absurd H (by simp)

/-! ### quill_TakeStr: function 21 (a leaf, by hand) -/
/-- A text's taking. -/
def qTakeStr (l : List Int) (most : Int) : ByteArray × List Int × Int :=
  if most < 0 then ((⟨#[]⟩ : ByteArray), [], 2)
  else if (qTake l).2.2 ≠ 0 then ((⟨#[]⟩ : ByteArray), [], (qTake l).2.2)
  else if most < (qTake l).1 then ((⟨#[]⟩ : ByteArray), [], 5)
  else if ((qTake l).2.1.length : Int) < (qTake l).1 then ((⟨#[]⟩ : ByteArray), [], 3)
  else (strOfNums ((qTake l).2.1.take (qTake l).1.toNat), (qTake l).2.1.drop (qTake l).1.toNat, 0)
def quill_TakeStr.f (l0 : List Int) (a1 : Int) : Option (ByteArray × List Int × Int) := if isByts l0 = true ∧ l0.length < 140737488355328 then (some (qTakeStr l0 a1)) else (none)
set_option maxHeartbeats 8000000 in
set_option maxRecDepth 100000 in
theorem quill_TakeStr.calls (A0 : Option Addr) (c0 : Nat) (l0 : List Int) (a1 : Int) (r1 : ByteArray) (r2 : List Int) (r3 : Int) (w : World) (hr0 : Kd.C (Kd.int .u8) w A0 l0.length l0) (hc0 : l0.length ≤ c0) (h : quill_TakeStr.f l0 a1 = some (r1, r2, r3)) :
    Calls Try.prog 21 #[.slice A0 l0.length c0, .int .i64 a1] w fun e w' => ∃ v1_ : Value, e = .returned (.tuple #[.string r1, v1_, .int .i64 r3]) ∧ Kd.R (Kd.int .u8) 5 w' w.heap.size (fun _ => True) v1_ r2 ∧ Below w.heap.size w w' := by
  unfold quill_TakeStr.f at h
  by_cases hc : isByts l0 = true ∧ l0.length < 140737488355328
  · rw [if_pos hc] at h
    have hq := Option.some.inj h
    clear h
    have HR0 := Aside0.mk hr0
    have HC0 := Aside0.mk hc0
    have HBy := Aside0.mk ((isByts_iff l0).1 hc.1)
    obtain ⟨⟨n, rest, er⟩, hqt⟩ : ∃ q, q = qTake l0 := ⟨_, rfl⟩
    have hl2 : rest.length < 140737488355328 := by have := qTake_len l0; rw [← hqt] at this; have : rest.length ≤ l0.length := this; omega
    have hbd := qTake_bd l0 HBy.out
    unfold qTakeStr at hq
    rw [← hqt] at hq hbd
    have hn0 : 0 ≤ n := hbd.1
    have hn1 : n ≤ 9007199254740991 := hbd.2
    have HQT := Aside0.mk hqt
    dsimp only at hq
    clear hr0 hc0 hc hqt hbd
    by_cases h1 : a1 < 0
    · rw [if_pos h1] at hq
      injection hq with q1 hq
      injection hq with q2 q3
      subst q1 q2 q3
      go_enter Try.func21, Try.ntmps21
      go_wp2
      go_ret3
      exact ⟨_, rfl, Kd.R_nil _ _ _ _ _, Below.refl _ _⟩
    rw [if_neg h1] at hq
    by_cases h2 : er ≠ 0
    · rw [if_pos h2] at hq
      injection hq with q1 hq
      injection hq with q2 q3
      subst q1 q2 q3
      have h2b : (er != 0) = true := bne_iff_ne.2 h2
      clear h2
      go_enter Try.func21, Try.ntmps21
      go_wp2_with fail
      refine (quill_take.calls A0 c0 l0 _ HBy.out HR0.out HC0.out).mono ?_
      rw [← HQT.out]
      rintro e w1 ⟨A, c, rfl, hC, hcl, hd⟩
      have HB1 := Aside0.mk hd.below
      clear hC hd
      go_wp2
      go_ret3
      exact ⟨_, rfl, Kd.R_nil _ _ _ _ _, HB1.out⟩
    rw [if_neg h2] at hq
    have h2b : er = 0 := Decidable.not_not.1 h2
    subst h2b
    clear h2
    by_cases h3 : a1 < n
    · rw [if_pos h3] at hq
      injection hq with q1 hq
      injection hq with q2 q3
      subst q1 q2 q3
      go_enter Try.func21, Try.ntmps21
      go_wp2_with fail
      refine (quill_take.calls A0 c0 l0 _ HBy.out HR0.out HC0.out).mono ?_
      rw [← HQT.out]
      rintro e w1 ⟨A, c, rfl, hC, hcl, hd⟩
      have HB1 := Aside0.mk hd.below
      clear hC hd
      go_wp2
      go_ret3
      exact ⟨_, rfl, Kd.R_nil _ _ _ _ _, HB1.out⟩
    rw [if_neg h3] at hq
    by_cases h4 : (rest.length : Int) < n
    · rw [if_pos h4] at hq
      injection hq with q1 hq
      injection hq with q2 q3
      subst q1 q2 q3
      go_enter Try.func21, Try.ntmps21
      go_wp2_with fail
      refine (quill_take.calls A0 c0 l0 _ HBy.out HR0.out HC0.out).mono ?_
      rw [← HQT.out]
      rintro e w1 ⟨A, c, rfl, hC, hcl, hd⟩
      have HB1 := Aside0.mk hd.below
      clear hC hd
      go_wp2
      go_ret3
      exact ⟨_, rfl, Kd.R_nil _ _ _ _ _, HB1.out⟩
    rw [if_neg h4] at hq
    injection hq with q1 hq
    injection hq with q2 q3
    subst q3
    have hl3 : r2.length < 140737488355328 := by rw [← q2, List.length_drop]; omega
    have HCL : Aside0 (slices_Clone_byte_byte.f r2 = some r2) := ⟨if_pos hl3⟩
    have Q1 := Aside0.mk q1
    have Q2 := Aside0.mk q2
    clear q1 q2
    go_enter Try.func21, Try.ntmps21
    go_wp2_with fail
    refine (quill_take.calls A0 c0 l0 _ HBy.out HR0.out HC0.out).mono ?_
    rw [← HQT.out]
    rintro e w1 ⟨A, c, rfl, hC0, hcl, hd⟩
    dsimp only at hC0 hcl
    have hC := Kd.C_below hC0 hd.below
    have HB1 := Aside0.mk hd.below
    clear hC0 hd
    obtain ⟨i01, hi01, _, hsz1, _⟩ := info_parts info5
    obtain ⟨hcut1, hA1, hC1⟩ := print_take_of (P := Try.prog) (Value.int .u8) 0 22 5 .i64 Try.underlying22 hi01 hsz1 A c rest n hn0 (by omega) hcl
    obtain ⟨y, hy⟩ : ∃ y, y = rest.take n.toNat := ⟨_, rfl⟩
    rw [← hy] at hcut1 hA1 hC1
    obtain ⟨A2, hcut2, hA2, hC2⟩ := print_drop_of (P := Try.prog) (Value.int .u8) 0 22 5 .i64 Try.underlying22 hi01 hsz1 A c rest n hn0 (by omega) hcl
    have HR1 : Aside0 (Kd.C (Kd.int .u8) w1 A y.length y) := ⟨Kd.C_of_reads (h1 := fun _ => rfl) (hA1 w1 (Kd.reads_of_C hC))⟩
    have HR2 : Aside0 (Kd.C (Kd.int .u8) w1 A2 r2.length r2) := ⟨by rw [← Q2.out]; exact Kd.C_of_reads (h1 := fun _ => rfl) (hA2 w1 (Kd.reads_of_C hC))⟩
    rw [Q2.out] at hcut2 hC2
    have HC2 := Aside0.mk hC2
    have hcv := fun (W : World) (hb : Below w1.heap.size w1 W) => Kd.C_string (P := Try.prog) (c := c) Try.underlying22 Try.underlying5 Try.underlying9 (Kd.C_below HR1.out hb)
    rw [hy, Q1.out, ← hy] at hcv
    clear hy
    have HCV := Aside0.mk hcv
    clear hcv hC hcl hA1 hA2 hC1 hC2 hi01 hsz1
    go_wp2_with fail
    have hcv1 := HCV.out w1.drew (below_drew (Below.refl _ _))
    go_region_with (go_at_call 35; refine (slices_Clone_byte_byte.calls A2 _ r2 r2 _ ?s1 ?s2 HCL.out).mono ?_; (case s1 => exact Kd.C_drew HR2.out); (case s2 => exact HC2.out); rintro e w2 ⟨v2, rfl, ho, hb⟩; have hcv2 := HCV.out w2 (below_step (below_drew (Below.refl _ _)) hb); have HO := Aside0.mk (Kd.R_lower ho (below_size (below_drew HB1.out))); have HB := Aside0.mk (below_step (below_drew HB1.out) hb); clear ho hb)
    all_goals
      go_wp2
      go_ret3
      exact ⟨_, rfl, (by assumption : Aside0 (Kd.R _ _ _ _ _ _ _)).out, (by assumption : Aside0 (Below w.heap.size w _)).out⟩
  · rw [if_neg hc] at h
    exact absurd h (by simp)

/-! ### slices_Reverse_byte_byte: function 33 -/
def slices_Reverse_byte_byte.l0 : Nat → List Int → Int → Int → Option (List Int)
  | 0, _, _, _ => none
  | k + 1, x0, x2, x3 => if x2 < x3 then (if 0 ≤ x3 then (if x3 < (x0.length : Int) then (if 0 ≤ x2 then (if x2 < (x0.length : Int) then (slices_Reverse_byte_byte.l0 k ((x0.set (x2 : Int).toNat (rd x0 x3)).set (x3 : Int).toNat (rd x0 x2)) (wrap64 (x2 + 1)) (wrap64 (x3 - 1))) else (none)) else (none)) else (none)) else (none)) else (some x0)
def slices_Reverse_byte_byte.f (k : Nat) (l0 : List Int) : Option (List Int) := slices_Reverse_byte_byte.l0 k l0 0 (wrap64 ((l0.length : Int) - 1))
theorem slices_Reverse_byte_byte.mono_l : ∀ k, (∀ y0 y1 y2, LeO (slices_Reverse_byte_byte.l0 k y0 y1 y2) (slices_Reverse_byte_byte.l0 (k + 1) y0 y1 y2))
  | 0 => fun _ _ _ r h => by simp [slices_Reverse_byte_byte.l0] at h
  | k + 1 => by
    have ih0 := slices_Reverse_byte_byte.mono_l k
    · intro y0 y1 y2
      unfold slices_Reverse_byte_byte.l0
      repeat' first
      | (with_reducible exact ih0 _ _ _)
      | (with_reducible exact LeO.refl _)
      | (with_reducible exact LeO.none _)
      | (with_reducible refine LeO.ite ?_ ?_)
      | (with_reducible refine LeO.bind ?_ (fun _ => ?_))
      | exact ih0 _ _ _
      | exact LeO.none _
      | refine LeO.ite ?_ ?_
      | refine LeO.bind ?_ (fun _ => ?_)
theorem slices_Reverse_byte_byte.mono : ∀ a0 k, LeO (slices_Reverse_byte_byte.f k a0) (slices_Reverse_byte_byte.f (k + 1) a0) := by
  intro a0 k
  have ih0 := slices_Reverse_byte_byte.mono_l k
  unfold slices_Reverse_byte_byte.f
  repeat' first
      | (with_reducible exact ih0 _ _ _)
      | (with_reducible exact LeO.refl _)
      | (with_reducible exact LeO.none _)
      | (with_reducible refine LeO.ite ?_ ?_)
      | (with_reducible refine LeO.bind ?_ (fun _ => ?_))
      | exact ih0 _ _ _
      | exact LeO.none _
      | refine LeO.ite ?_ ?_
      | refine LeO.bind ?_ (fun _ => ?_)
def slices_Reverse_byte_byte.T3 : Bool × List (List Nat × List Nat) := (true, [([], []), ([], []), ([], []), ([], []), ([], []), ([], []), ([4, 5], [4, 5]), ([6], [6]), ([], []), ([], []), ([8, 9], [8, 9]), ([10], [10]), ([0, 1, 0, 1, 4, 5, 6, 7, 11], [0, 1]), ([12, 7, 0, 1, 4, 5, 6, 7, 11], [7, 12]), ([2, 3, 0, 1, 2, 3, 4, 5, 6, 7, 8, 9, 10, 11, 12, 13], [2, 3]), ([14, 11, 13, 0, 1, 2, 3, 4, 5, 6, 7, 8, 9, 10, 11, 12, 13], [11, 14])])
def slices_Reverse_byte_byte.B3 : List Nat := [0, 0, 0, 0, 0, 0, 48, 112, 0, 0, 768, 1792, 4083, 8179, 16383, 32767]
theorem slices_Reverse_byte_byte.tab3 : rtab .any (opsOf Try.f33 3) = slices_Reverse_byte_byte.T3 := by kernel_rfl
theorem slices_Reverse_byte_byte.bits3 : waitsOk slices_Reverse_byte_byte.T3.2 slices_Reverse_byte_byte.B3 = true := by kernel_rfl
set_option maxHeartbeats 8000000 in
set_option maxRecDepth 100000 in
theorem slices_Reverse_byte_byte.calls (k : Nat) (P0_ : Nat → Prop) (u9000_ : Value) (l0 : List Int) (r : List Int) (w0 w : World) (hB : Below w0.heap.size w0 w) (ho0 : Kd.R (Kd.int .u8) 5 w w0.heap.size P0_ u9000_ l0) (h : slices_Reverse_byte_byte.f k l0 = some r) :
    Calls Try.prog 33 #[u9000_] w fun e w' => e = .returned (.tuple #[]) ∧ Kd.R (Kd.int .u8) 5 w' w0.heap.size (fun k_ => (P0_ k_ ∨ w.heap.size ≤ k_)) u9000_ r ∧ Below w0.heap.size w0 w' ∧ Kept w w' (fun k_ => P0_ k_) := by
  have HO0 := Aside0.mk (show Kd.R (Kd.int .u8) 5 w w0.heap.size (fun k_ => (P0_ k_ ∨ w.heap.size ≤ k_)) u9000_ l0 from Kd.R_mono ho0 (fun k_ hk => (.inl hk)))
  have HK := Aside0.mk (Kept.refl w (fun k_ => P0_ k_))
  have HW0 := Aside0.mk hB.size
  have HB := Aside0.mk hB
  clear hB
  have H : (slices_Reverse_byte_byte.l0 k l0 0 (wrap64 ((l0.length : Int) - 1))) = some r := h
  clear h
  have H' := Aside0.mk H
  clear H
  obtain ⟨Ao2, co2, eo2⟩ := Kd.R_slice HO0.out
  subst eo2
  go_enter Try.func33, Try.ntmps33
  go_wp2
  go_loopg [2, 3] k (fun kq v2 v3 w' => ∃ (x0_1 : List Int) (x2_1 : Int) (x3_1 : Int), v2 = .int .i64 x2_1 ∧ v3 = .int .i64 x3_1 ∧ Aside0 (slices_Reverse_byte_byte.l0 kq x0_1 x2_1 x3_1 = some r) ∧ Aside0 (kq ≤ k) ∧ Aside0 (Kd.R (Kd.int .u8) 5 w' w0.heap.size (fun k_ => (P0_ k_ ∨ w.heap.size ≤ k_)) (.slice Ao2 l0.length co2) x0_1) ∧ Aside0 (Kept w w' (fun k_ => P0_ k_)) ∧ Aside0 (Below w0.heap.size w0 w'))
  case atStart => exact ⟨(l0), (0), (wrap64 ((l0.length : Int) - 1)), (by first | rfl | (simp; done) | (simp [*]; done)), (by first | rfl | (simp; done) | (simp [*]; done)), H', ⟨Nat.le_refl _⟩, ⟨by (with_reducible repeat (first | apply Kd.R_alloc | apply Kd.R_drewN | apply Kd.R_drew)); exact HO0.out⟩, ⟨by repeat (first | (with_reducible first | exact HK.out | apply Kept.alloc | apply Kept.drewN | apply Kept.drew) | exact HK.out)⟩, ⟨by repeat (first | (with_reducible first | exact HB.out | apply below_alloc | apply pw_below_drewN | apply below_drew1) | exact HB.out)⟩⟩
  case round =>
    clear H'
    try clear p2
    obtain ⟨x0_1, x2_1, x3_1, rfl, rfl, HA, HK1, HO_0, HK, HB⟩ := hrel
    have hl0_1 := (Kd.R_reads' HO_0.out).1
    rw [hl0_1] at HO_0
    (try simp only [hl0_1])
    cases gk with
    | zero => exact absurd HA.out (by simp [slices_Reverse_byte_byte.l0])
    | succ k1 =>
      have H := HA.out
      clear HA
      simp only [slices_Reverse_byte_byte.l0] at H
      by_cases c3 : x2_1 < x3_1
      · rw [if_pos c3] at H
        have c3b0 : decide (x2_1 < x3_1) = true := decide_eq_true c3
        clear c3
        by_cases c4 : 0 ≤ x3_1
        · rw [if_pos c4] at H
          have c4b0 : decide (0 ≤ x3_1) = true := decide_eq_true c4
          clear c4
          by_cases c5 : x3_1 < (x0_1.length : Int)
          · rw [if_pos c5] at H
            have c5b0 : decide (x3_1 < (x0_1.length : Int)) = true := decide_eq_true c5
            clear c5
            by_cases c6 : 0 ≤ x2_1
            · rw [if_pos c6] at H
              have c6b0 : decide (0 ≤ x2_1) = true := decide_eq_true c6
              clear c6
              by_cases c7 : x2_1 < (x0_1.length : Int)
              · rw [if_pos c7] at H
                have c7b0 : decide (x2_1 < (x0_1.length : Int)) = true := decide_eq_true c7
                clear c7
                obtain ⟨y105, hy105⟩ : ∃ y_ : List Int, y_ = (x0_1.set (x2_1 : Int).toNat (rd x0_1 x3_1)) := ⟨_, rfl⟩
                replace H : (slices_Reverse_byte_byte.l0 k1 (y105.set (x3_1 : Int).toNat (rd x0_1 x2_1)) (wrap64 (x2_1 + 1)) (wrap64 (x3_1 - 1))) = some r := by first | (rw [hy105]; with_reducible exact H) | (have H2_ := (Option.bind_some _ _).symm.trans H; rw [hy105]; with_reducible exact H2_) | (have H2_ := (Option.bind_some _ _).symm.trans H; with_reducible exact H2_) | with_reducible exact H | (rw [hy105]; exact H) | exact H
                have Ny105 := Aside0.mk hy105
                clear hy105
                obtain ⟨y106, hy106⟩ : ∃ y_ : List Int, y_ = (y105.set (x3_1 : Int).toNat (rd x0_1 x2_1)) := ⟨_, rfl⟩
                replace H : (slices_Reverse_byte_byte.l0 k1 y106 (wrap64 (x2_1 + 1)) (wrap64 (x3_1 - 1))) = some r := by first | (rw [hy106]; with_reducible exact H) | (have H2_ := (Option.bind_some _ _).symm.trans H; rw [hy106]; with_reducible exact H2_) | (have H2_ := (Option.bind_some _ _).symm.trans H; with_reducible exact H2_) | with_reducible exact H | (rw [hy106]; exact H) | exact H
                have Ny106 := Aside0.mk hy106
                clear hy106
                have H' := Aside0.mk H
                clear H
                try go_wp2
                have n0_ := Aside0.mk (Kd.R_drew HO_0.out)
                have n1_ := Aside0.mk (Kept.drew HK.out)
                have n2_ := Aside0.mk (below_drew1 HB.out)
                clear HO_0
                clear HK
                clear HB
                have HO_0 := n0_
                have HK := n1_
                have HB := n2_
                clear n0_ n1_ n2_
                have p103 : 0 ≤ (x3_1 : Int) := of_decide_eq_true (by first | (with_reducible assumption) | assumption)
                have q103 : x3_1 < (x0_1.length : Int) := of_decide_eq_true (by first | (with_reducible assumption) | assumption)
                obtain ⟨ad103, e103, hx103_0⟩ := Kd.at_int (Kd.R_reads' HO_0.out).2.2 x3_1 p103 q103
                cases e103
                replace p103 := eq_true p103
                replace q103 := eq_true q103
                have p104 : 0 ≤ (x2_1 : Int) := of_decide_eq_true (by first | (with_reducible assumption) | assumption)
                have q104 : x2_1 < (x0_1.length : Int) := of_decide_eq_true (by first | (with_reducible assumption) | assumption)
                obtain ⟨ad104, e104, hx104_0⟩ := Kd.at_int (Kd.R_reads' HO_0.out).2.2 x2_1 p104 q104
                obtain rfl : ad103 = ad104 := (by injection e104)
                replace p104 := eq_true p104
                replace q104 := eq_true q104
                have p8 : 0 ≤ (x2_1 : Int) := of_decide_eq_true (by first | (with_reducible assumption) | assumption)
                have q8 : (x2_1 : Int) < ((x0_1.length : Int) : Int) := of_decide_eq_true (by first | (with_reducible assumption) | assumption)
                obtain ⟨go8, co8, eo8, gb8, gl8, cl8, HG8⟩ := Kd.R_form HO_0.out (by omega)
                (first | cases eo8 | (injection eo8 with ea_ en_ ec_; (first | subst ea_ | (injection ea_ with ea_; subst ea_)); subst ec_; clear en_))
                have GB8 := Aside0.mk gb8
                have GG8 := Aside0.mk HG8
                clear gb8 gl8 HG8
                have HMgo8 := Aside0.mk (show (P0_ go8 ∨ w.heap.size ≤ go8) from (HO_0.out.1 _ rfl))
                (first | simp only [add_plain] at hx103_0 | skip)
                (first | simp only [add_plain] at hx104_0 | skip)
                obtain ⟨hx8_0, hf8_0⟩ := Kd.R_celln 0 HO_0.out (x2_1 : Int) p8 q8
                replace p8 := eq_true p8
                replace q8 := eq_true q8
                have HP11 := Kd.R_putn HO_0.out (x2_1 : Int) (rd x0_1 x3_1)
                rw [← Ny105.out] at HP11
                have HQ11 := Aside0.mk HP11
                clear HP11
                have p9 : 0 ≤ (x3_1 : Int) := of_decide_eq_true (by first | (with_reducible assumption) | assumption)
                have q9 : (x3_1 : Int) < ((x0_1.length : Int) : Int) := of_decide_eq_true (by first | (with_reducible assumption) | assumption)
                obtain ⟨hx9_0, hf9_0⟩ := Kd.R_celln 0 HQ11.out (x3_1 : Int) p9 q9
                replace p9 := eq_true p9
                replace q9 := eq_true q9
                have HP12 := Kd.R_putn HQ11.out (x3_1 : Int) (rd x0_1 x2_1)
                rw [← Ny106.out] at HP12
                have HQ12 := Aside0.mk HP12
                clear HP12
                refine start_ (n := 16) (S := fun w' => w'.cell? ⟨go8, (x3_1).toNat, none⟩ = some (.int .u8 (rd x0_1 x3_1)) ∧ w'.cell? ⟨go8, (x2_1).toNat, none⟩ = some (.int .u8 (rd x0_1 x2_1))) (ds := [13, 15]) #[false, false, false, false, false, false, false, false, false, false, false, false, false, false, false, false] (by kernel_rfl) rfl rfl ⟨hx103_0, hx104_0⟩ (fun hHeld => ?_); refine with_tabW slices_Reverse_byte_byte.tab3 slices_Reverse_byte_byte.bits3 (fun HT_ HW_ => ?_)
                generalize wr.drew = w10 at HO_0 HK HB GG8 HQ11 HQ12 hf8_0 hf9_0 hx103_0 hx104_0 hx8_0 hx9_0 hHeld ⊢
                refine pure_ (i := 0) (N := some 14) (v := ?_) (a' := ?_) #[true, false, false, false, false, false, false, false, false, false, false, false, false, false, false, false] rfl rfl (any_of HT_.out (by kernel_rfl)) (fun _ _ _ h => h) (Or.inl ⟨by rfl, ?_⟩) ?_ ?_
                rotate_left
                · intro w'
                  go_simp
                  with_reducible rfl
                rotate_left
                · simp only [Act.put, List.setIfInBounds_toArray, List.set_cons_zero, List.set_cons_succ, i64_w, i32_w]
                  rfl
                refine pure_ (i := 1) (N := some 15) (v := ?_) (a' := ?_) #[true, true, false, false, false, false, false, false, false, false, false, false, false, false, false, false] rfl rfl (any_of HT_.out (by kernel_rfl)) (fun _ _ _ h => h) (Or.inl ⟨by rfl, ?_⟩) ?_ ?_
                rotate_left
                · intro w'
                  go_simp
                  with_reducible rfl
                rotate_left
                · simp only [Act.put, List.setIfInBounds_toArray, List.set_cons_zero, List.set_cons_succ, i64_w, i32_w]
                  rfl
                refine pure_ (i := 2) (N := some 16) (v := ?_) (a' := ?_) #[true, true, true, false, false, false, false, false, false, false, false, false, false, false, false, false] rfl rfl (any_of HT_.out (by kernel_rfl)) (fun _ _ _ h => h) (Or.inl ⟨by rfl, ?_⟩) ?_ ?_
                rotate_left
                · intro w'
                  go_simp
                  with_reducible rfl
                rotate_left
                · simp only [Act.put, List.setIfInBounds_toArray, List.set_cons_zero, List.set_cons_succ, i64_w, i32_w]
                  rfl
                refine pure_ (i := 3) (N := some 17) (v := ?_) (a' := ?_) #[true, true, true, true, false, false, false, false, false, false, false, false, false, false, false, false] rfl rfl (any_of HT_.out (by kernel_rfl)) (fun _ _ _ h => h) (Or.inl ⟨by rfl, ?_⟩) ?_ ?_
                rotate_left
                · intro w'
                  go_simp
                  with_reducible rfl
                rotate_left
                · simp only [Act.put, List.setIfInBounds_toArray, List.set_cons_zero, List.set_cons_succ, i64_w, i32_w]
                  rfl
                refine pure_ (i := 4) (N := some 18) (v := ?_) (a' := ?_) #[true, true, true, true, true, false, false, false, false, false, false, false, false, false, false, false] rfl rfl (any_of HT_.out (by kernel_rfl)) (fun _ _ _ h => h) (Or.inl ⟨by rfl, ?_⟩) ?_ ?_
                rotate_left
                · intro w'
                  go_simp
                  with_reducible rfl
                rotate_left
                · simp only [Act.put, List.setIfInBounds_toArray, List.set_cons_zero, List.set_cons_succ, i64_w, i32_w]
                  rfl
                refine pure_ (i := 5) (N := some 19) (v := ?_) (a' := ?_) #[true, true, true, true, true, true, false, false, false, false, false, false, false, false, false, false] rfl rfl (any_of HT_.out (by kernel_rfl)) (fun _ _ _ h => h) (Or.inl ⟨by rfl, ?_⟩) ?_ ?_
                rotate_left
                · intro w'
                  go_simp
                  with_reducible rfl
                rotate_left
                · simp only [Act.put, List.setIfInBounds_toArray, List.set_cons_zero, List.set_cons_succ, i64_w, i32_w]
                  rfl
                refine pure_ (i := 6) (N := some 20) (v := ?_) (a' := ?_) #[true, true, true, true, true, true, true, false, false, false, false, false, false, false, false, false] rfl rfl (any_of HT_.out (by kernel_rfl)) (fun _ _ _ h => h) (Or.inl ⟨by rfl, ?_⟩) ?_ ?_
                rotate_left
                · intro w'
                  go_simp
                  with_reducible rfl
                rotate_left
                · simp only [Act.put, List.setIfInBounds_toArray, List.set_cons_zero, List.set_cons_succ, i64_w, i32_w]
                  rfl
                refine pure_ (i := 8) (N := some 22) (v := ?_) (a' := ?_) #[true, true, true, true, true, true, true, false, true, false, false, false, false, false, false, false] rfl rfl (any_of HT_.out (by kernel_rfl)) (fun _ _ _ h => h) (Or.inl ⟨by rfl, ?_⟩) ?_ ?_
                rotate_left
                · intro w'
                  go_simp
                  with_reducible rfl
                rotate_left
                · simp only [Act.put, List.setIfInBounds_toArray, List.set_cons_zero, List.set_cons_succ, i64_w, i32_w]
                  rfl
                refine pure_ (i := 9) (N := some 23) (v := ?_) (a' := ?_) #[true, true, true, true, true, true, true, false, true, true, false, false, false, false, false, false] rfl rfl (any_of HT_.out (by kernel_rfl)) (fun _ _ _ h => h) (Or.inl ⟨by rfl, ?_⟩) ?_ ?_
                rotate_left
                · intro w'
                  go_simp
                  with_reducible rfl
                rotate_left
                · simp only [Act.put, List.setIfInBounds_toArray, List.set_cons_zero, List.set_cons_succ, i64_w, i32_w]
                  rfl
                refine pure_ (i := 10) (N := some 24) (v := ?_) (a' := ?_) #[true, true, true, true, true, true, true, false, true, true, true, false, false, false, false, false] rfl rfl (any_of HT_.out (by kernel_rfl)) (fun _ _ _ h => h) (Or.inl ⟨by rfl, ?_⟩) ?_ ?_
                rotate_left
                · intro w'
                  go_simp
                  with_reducible rfl
                rotate_left
                · simp only [Act.put, List.setIfInBounds_toArray, List.set_cons_zero, List.set_cons_succ, i64_w, i32_w]
                  rfl
                refine take_ (i := 7) (N := some 21) (v := ?_) (a' := ?_) #[true, true, true, true, true, true, true, true, true, true, true, false, false, false, false, false] rfl rfl (take_ofW HT_.out HW_.out (by kernel_rfl)) (fun _ _ _ h => h) (Or.inl ⟨by rfl, ?_⟩) hHeld ?_ ?_
                rotate_left
                · rintro w' ⟨s0, s1⟩
                  go_simp
                  with_reducible rfl
                rotate_left
                · simp only [Act.put, List.setIfInBounds_toArray, List.set_cons_zero, List.set_cons_succ, i64_w, i32_w]
                  rfl
                refine take_ (i := 11) (N := some 25) (v := ?_) (a' := ?_) #[true, true, true, true, true, true, true, true, true, true, true, true, false, false, false, false] rfl rfl (take_ofW HT_.out HW_.out (by kernel_rfl)) (fun _ _ _ h => h) (Or.inl ⟨by rfl, ?_⟩) hHeld ?_ ?_
                rotate_left
                · rintro w' ⟨s0, s1⟩
                  go_simp
                  with_reducible rfl
                rotate_left
                · simp only [Act.put, List.setIfInBounds_toArray, List.set_cons_zero, List.set_cons_succ, i64_w, i32_w]
                  rfl
                refine pure_ (i := 12) (N := some 26) (v := ?_) (a' := ?_) #[true, true, true, true, true, true, true, true, true, true, true, true, true, false, false, false] rfl rfl (any_of HT_.out (by kernel_rfl)) (fun _ _ _ h => h) (Or.inl ⟨by rfl, ?_⟩) ?_ ?_
                rotate_left
                · intro w'
                  go_simp
                  with_reducible rfl
                rotate_left
                · simp only [Act.put, List.setIfInBounds_toArray, List.set_cons_zero, List.set_cons_succ, i64_w, i32_w]
                  rfl
                refine last_ (i := 13) (N := none) #[true, true, true, true, true, true, true, true, true, true, true, true, true, true, false, false] rfl rfl (one_of HT_.out (by kernel_rfl)) (by decide) (fun K hK => ?_)
                refine skip_ (w1 := ?_) (by rfl) rfl ?_ ?_
                rotate_left
                · go_simp
                  rfl
                refine hK.out _ _ ?_
                clear hK K
                refine pure_ (i := 14) (N := some 27) (v := ?_) (a' := ?_) #[true, true, true, true, true, true, true, true, true, true, true, true, true, true, true, false] rfl rfl (any_of HT_.out (by kernel_rfl)) (fun _ _ _ h => h) (Or.inl ⟨by rfl, ?_⟩) ?_ ?_
                rotate_left
                · intro w'
                  go_simp
                  with_reducible rfl
                rotate_left
                · simp only [Act.put, List.setIfInBounds_toArray, List.set_cons_zero, List.set_cons_succ, i64_w, i32_w]
                  rfl
                refine last_ (i := 15) (N := none) #[true, true, true, true, true, true, true, true, true, true, true, true, true, true, true, true] rfl rfl (one_of HT_.out (by kernel_rfl)) (by decide) (fun K hK => ?_)
                refine skip_ (w1 := ?_) (by rfl) rfl ?_ ?_
                rotate_left
                · go_simp
                  rfl
                refine hK.out _ _ ?_
                clear hK K
                refine done_ (done_of HT_.out (by kernel_rfl)) ?_
                try go_wp2
                (try simp only [← hl0_1])
                go_roundg k1
                case measure => have := HK1.out; omega
                case rel => exact ⟨(y106), (wrap64 (x2_1 + 1)), (wrap64 (x3_1 - 1)), (by first | rfl | (simp; done) | (simp [*]; done)), (by first | rfl | (simp; done) | (simp [*]; done)), H', ⟨by have := HK1.out; omega⟩, ⟨by (try simp only [hl0_1]); (with_reducible repeat (first | apply Kd.R_alloc | apply Kd.R_drewN | apply Kd.R_drew)); exact HQ12.out⟩, ⟨by repeat (first | (with_reducible first | exact HK.out | apply Kept.alloc | apply Kept.drewN | apply Kept.drew | refine Kept.setCell ?_ HMgo8.out _ | refine Kept.setCell ?_ HMgo8.out _) | exact HK.out)⟩, ⟨by repeat (first | (with_reducible first | exact HB.out | apply below_alloc | apply pw_below_drewN | apply below_drew1 | refine below_set ?_ GB8.out | refine below_set ?_ GB8.out) | exact HB.out)⟩⟩
              · rw [if_neg c7] at H
                exact absurd H (by simp)
            · rw [if_neg c6] at H
              exact absurd H (by simp)
          · rw [if_neg c5] at H
            exact absurd H (by simp)
        · rw [if_neg c4] at H
          exact absurd H (by simp)
      · rw [if_neg c3] at H
        have c3b0 : decide (x2_1 < x3_1) = false := decide_eq_false c3
        clear c3
        obtain rfl := Option.some.inj H
        go_wp2
        first | go_end0 | ((try simp only [Exit.inBlock, Exit.then]); refine bodyPost_ret (results_none rfl _ _ _) rfl ?_)
        exact ⟨by first | rfl | (simp [errW_none, errW_some] <;> rfl) | (simp [*, errW_none, errW_some] <;> rfl), (by first | exact (by (with_reducible repeat (first | apply Kd.R_alloc | apply Kd.R_drewN | apply Kd.R_drew)); exact HO_0.out) | (simp only [hl0_1]; exact (by (with_reducible repeat (first | apply Kd.R_alloc | apply Kd.R_drewN | apply Kd.R_drew)); exact HO_0.out))), by repeat (first | (with_reducible first | exact HB.out | apply below_alloc | apply pw_below_drewN | apply below_drew1) | exact HB.out), by repeat (first | (with_reducible first | exact HK.out | apply Kept.alloc | apply Kept.drewN | apply Kept.drew) | exact HK.out)⟩

end Go.Proofs.Ytclbcmblgbinpaa.PQuillJoin
