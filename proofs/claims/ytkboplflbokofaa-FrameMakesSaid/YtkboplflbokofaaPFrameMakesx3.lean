/- Written by xprint.py, a program of these sessions (over the print of the kit, with leaves typed by hand): one Lean function for each Go function, and the proof that the Go code comes to its answers. -/
import Derived.Test.YtkboplflbokofaaPFrameMakesx0
namespace Go.Proofs.Ytkboplflbokofaa.PFrameMakes
open Go.RowKit Go.Proofs.YtkboplflbokofaaW.PrintWords Go.Proofs.YtkboplflbokofaaW.PrintLast Go.Proofs.YtkboplflbokofaaW.PrintMore
attribute [local go_sem] max2_int min2_int max_two min_two max_three min_three max_four min_four   -- for this text's walks alone
set_option linter.unusedVariables false
set_option linter.unusedSimpArgs false

/-! ### scriptoriumref00_EqBytes: function 15 -/
def scriptoriumref00_EqBytes.l0 : Nat → List Int → List Int → Int → Option (Bool)
  | 0, _, _, _ => none
  | k + 1, x0, x1, x5 => if x5 < (x0.length : Int) then (if 0 ≤ x5 then (if x5 < (x1.length : Int) then (if (rd x0 x5) = (rd x1 x5) then (scriptoriumref00_EqBytes.l0 k x0 x1 (wrap64 (x5 + 1))) else (some false)) else (none)) else (none)) else (some true)
def scriptoriumref00_EqBytes.f (k : Nat) (l0 : List Int) (l1 : List Int) : Option (Bool) := if (l0.length : Int) = (l1.length : Int) then (scriptoriumref00_EqBytes.l0 k l0 l1 0) else (some false)
theorem scriptoriumref00_EqBytes.mono_l : ∀ k, (∀ y0 y1 y2, LeO (scriptoriumref00_EqBytes.l0 k y0 y1 y2) (scriptoriumref00_EqBytes.l0 (k + 1) y0 y1 y2))
  | 0 => fun _ _ _ r h => by simp [scriptoriumref00_EqBytes.l0] at h
  | k + 1 => by
    have ih0 := scriptoriumref00_EqBytes.mono_l k
    · intro y0 y1 y2
      unfold scriptoriumref00_EqBytes.l0
      repeat' first
      | (with_reducible exact ih0 _ _ _)
      | (with_reducible exact LeO.refl _)
      | (with_reducible exact LeO.none _)
      | (with_reducible refine LeO.ite ?_ ?_)
      | (with_reducible refine LeO.bind ?_ (fun _ => ?_))
      | exact ih0 _ _ _
      | exact LeO.none _
      | refine LeO.ite ?_ ?_
      | refine LeO.bind ?_ (fun _ => ?_)
theorem scriptoriumref00_EqBytes.mono : ∀ a0 a1 k, LeO (scriptoriumref00_EqBytes.f k a0 a1) (scriptoriumref00_EqBytes.f (k + 1) a0 a1) := by
  intro a0 a1 k
  have ih0 := scriptoriumref00_EqBytes.mono_l k
  unfold scriptoriumref00_EqBytes.f
  repeat' first
      | (with_reducible exact ih0 _ _ _)
      | (with_reducible exact LeO.refl _)
      | (with_reducible exact LeO.none _)
      | (with_reducible refine LeO.ite ?_ ?_)
      | (with_reducible refine LeO.bind ?_ (fun _ => ?_))
      | exact ih0 _ _ _
      | exact LeO.none _
      | refine LeO.ite ?_ ?_
      | refine LeO.bind ?_ (fun _ => ?_)
set_option maxHeartbeats 8000000 in
set_option maxRecDepth 100000 in
theorem scriptoriumref00_EqBytes.calls (k : Nat) (A0 : Option Addr) (c0 : Nat) (l0 : List Int) (A1 : Option Addr) (c1 : Nat) (l1 : List Int) (r : Bool) (w : World) (hr0 : Kd.C (Kd.int .u8) w A0 l0.length l0) (hc0 : l0.length ≤ c0) (hr1 : Kd.C (Kd.int .u8) w A1 l1.length l1) (hc1 : l1.length ≤ c1) (h : scriptoriumref00_EqBytes.f k l0 l1 = some r) :
    Calls Try.prog 15 #[.slice A0 l0.length c0, .slice A1 l1.length c1] w fun e w' => e = .returned (.bool r) ∧ Drawn0 w w' := by
  have HR0 := Aside0.mk hr0
  have HC0 := Aside0.mk hc0
  clear hr0 hc0
  have HR1 := Aside0.mk hr1
  have HC1 := Aside0.mk hc1
  clear hr1 hc1
  have H : (if (l0.length : Int) = (l1.length : Int) then (scriptoriumref00_EqBytes.l0 k l0 l1 0) else (some false)) = some r := h
  clear h
  by_cases c3 : (l0.length : Int) = (l1.length : Int)
  · rw [if_pos c3] at H
    have c3b0 : ((l0.length : Int) == (l1.length : Int)) = true := beq_iff_eq.mpr c3
    have c3b1 : ((l0.length : Int) != (l1.length : Int)) = false := bne_eq_false_iff_eq.mpr c3
    have c3b2 : (l0.length == l1.length) = true := by first | simpa using c3 | (simp at c3 ⊢; omega)
    clear c3
    have H' := Aside0.mk H
    clear H
    go_enter Try.func15, Try.ntmps15
    go_wp2
    repeat (go_quiet (fail); try go_wp2)
    go_loopg [5] k (fun kq v5 w' => ∃ (x5_1 : Int), v5 = .int .i64 x5_1 ∧ Aside0 (scriptoriumref00_EqBytes.l0 kq l0 l1 x5_1 = some r) ∧ Aside0 (kq ≤ k) ∧ Drawn0 w w')
    case atStart => exact ⟨(0), (by first | rfl | (simp; done) | (simp [*]; done)), H', ⟨Nat.le_refl _⟩, by repeat (first | exact Drawn0.refl _ | apply Drawn0.step)⟩
    case round =>
      clear H'
      try clear c1
      try clear p2
      try clear c3
      try clear c3b0
      try clear c3b1
      try clear c3b2
      obtain ⟨x5_1, rfl, HA, HK1, ⟨m1, rfl⟩⟩ := hrel
      cases gk with
      | zero => exact absurd HA.out (by simp [scriptoriumref00_EqBytes.l0])
      | succ k1 =>
        have H := HA.out
        clear HA
        simp only [scriptoriumref00_EqBytes.l0] at H
        by_cases c4 : x5_1 < (l0.length : Int)
        · rw [if_pos c4] at H
          have c4b0 : decide (x5_1 < (l0.length : Int)) = true := decide_eq_true c4
          clear c4
          by_cases c5 : 0 ≤ x5_1
          · rw [if_pos c5] at H
            have c5b0 : decide (0 ≤ x5_1) = true := decide_eq_true c5
            clear c5
            by_cases c6 : x5_1 < (l1.length : Int)
            · rw [if_pos c6] at H
              have c6b0 : decide (x5_1 < (l1.length : Int)) = true := decide_eq_true c6
              clear c6
              by_cases c7 : (rd l0 x5_1) = (rd l1 x5_1)
              · rw [if_pos c7] at H
                have c7b0 : ((rd l0 x5_1) == (rd l1 x5_1)) = true := beq_iff_eq.mpr c7
                have c7b1 : ((rd l0 x5_1) != (rd l1 x5_1)) = false := bne_eq_false_iff_eq.mpr c7
                clear c7
                have H' := Aside0.mk H
                clear H
                have p172 : 0 ≤ (x5_1 : Int) := of_decide_eq_true (by first | (with_reducible assumption) | assumption)
                have q172 : x5_1 < (l0.length : Int) := of_decide_eq_true (by first | (with_reducible assumption) | assumption)
                obtain ⟨ad172, e172, hx172_0⟩ := Kd.at_int HR0.out x5_1 p172 q172
                cases e172
                replace p172 := eq_true p172
                replace q172 := eq_true q172
                have p173 : 0 ≤ (x5_1 : Int) := of_decide_eq_true (by first | (with_reducible assumption) | assumption)
                have q173 : x5_1 < (l1.length : Int) := of_decide_eq_true (by first | (with_reducible assumption) | assumption)
                obtain ⟨ad173, e173, hx173_0⟩ := Kd.at_int HR1.out x5_1 p173 q173
                cases e173
                replace p173 := eq_true p173
                replace q173 := eq_true q173
                go_wp2
                repeat (go_quiet (fail); try go_wp2)
                go_roundg k1
                case measure => have := HK1.out; omega
                case rel => exact ⟨(wrap64 (x5_1 + 1)), (by first | rfl | (simp; done) | (simp [*]; done)), H', ⟨by have := HK1.out; omega⟩, by repeat (first | exact Drawn0.refl _ | apply Drawn0.step)⟩
              · rw [if_neg c7] at H
                have c7b0 : ((rd l0 x5_1) == (rd l1 x5_1)) = false := beq_eq_false_iff_ne.mpr c7
                have c7b1 : ((rd l0 x5_1) != (rd l1 x5_1)) = true := bne_iff_ne.mpr c7
                obtain rfl := Option.some.inj H
                have p172 : 0 ≤ (x5_1 : Int) := of_decide_eq_true (by first | (with_reducible assumption) | assumption)
                have q172 : x5_1 < (l0.length : Int) := of_decide_eq_true (by first | (with_reducible assumption) | assumption)
                obtain ⟨ad172, e172, hx172_0⟩ := Kd.at_int HR0.out x5_1 p172 q172
                cases e172
                replace p172 := eq_true p172
                replace q172 := eq_true q172
                have p173 : 0 ≤ (x5_1 : Int) := of_decide_eq_true (by first | (with_reducible assumption) | assumption)
                have q173 : x5_1 < (l1.length : Int) := of_decide_eq_true (by first | (with_reducible assumption) | assumption)
                obtain ⟨ad173, e173, hx173_0⟩ := Kd.at_int HR1.out x5_1 p173 q173
                cases e173
                replace p173 := eq_true p173
                replace q173 := eq_true q173
                go_wp2
                repeat (go_quiet (fail); try go_wp2)
                go_ret
                exact ⟨by first | rfl | (simp; done) | (simp [*]; done), by repeat (first | exact Drawn0.refl _ | apply Drawn0.step)⟩
            · rw [if_neg c6] at H
              exact absurd H (by simp)
          · rw [if_neg c5] at H
            exact absurd H (by simp)
        · rw [if_neg c4] at H
          have c4b0 : decide (x5_1 < (l0.length : Int)) = false := decide_eq_false c4
          clear c4
          obtain rfl := Option.some.inj H
          go_wp2
          repeat (go_quiet (fail); try go_wp2)
          go_ret
          exact ⟨by first | rfl | (simp; done) | (simp [*]; done), by repeat (first | exact Drawn0.refl _ | apply Drawn0.step)⟩
  · rw [if_neg c3] at H
    have c3b0 : ((l0.length : Int) == (l1.length : Int)) = false := beq_eq_false_iff_ne.mpr c3
    have c3b1 : ((l0.length : Int) != (l1.length : Int)) = true := bne_iff_ne.mpr c3
    have c3b2 : (l0.length == l1.length) = false := by first | simpa using c3 | (simp at c3 ⊢; omega)
    obtain rfl := Option.some.inj H
    go_enter Try.func15, Try.ntmps15
    go_wp2
    repeat (go_quiet (fail); try go_wp2)
    go_ret
    exact ⟨by first | rfl | (simp; done) | (simp [*]; done), by repeat (first | exact Drawn0.refl _ | apply Drawn0.step)⟩

/-! ### slices_Clone_byte_byte: function 32 (a leaf, by hand) -/
def slices_Clone_byte_byte.f (l0 : List Int) : Option (List Int) := if l0.length < 140737488355328 then (some l0) else (none)
set_option maxHeartbeats 8000000 in
set_option maxRecDepth 100000 in
theorem slices_Clone_byte_byte.calls (A0 : Option Addr) (c0 : Nat) (l0 : List Int) (r : List Int) (w : World) (hr0 : Kd.C (Kd.int .u8) w A0 l0.length l0) (hc0 : l0.length ≤ c0) (h : slices_Clone_byte_byte.f l0 = some r) :
    Calls Try.prog 32 #[.slice A0 l0.length c0] w fun e w' => ∃ v0_ : Value, e = .returned (v0_) ∧ Kd.R (Kd.int .u8) 5 w' w.heap.size (fun _ => True) v0_ r ∧ Below w.heap.size w w' := by
  have HR0 := Aside0.mk hr0
  have HC0 := Aside0.mk hc0
  clear hr0 hc0
  have HB := Aside0.mk (Below.refl w.heap.size w)
  have H : (if l0.length < 140737488355328 then (some l0) else (none)) = some r := h
  clear h
  by_cases c2 : l0.length < 140737488355328
  · rw [if_pos c2] at H
    have LM := Aside0.mk c2
    clear c2
    obtain rfl := Option.some.inj H
    clear H
    have qT : ∀ (w : World) (a : Option Addr) (n c n' c' : Nat), (binOp .eql 22 (.slice a n c) (.slice none n' c')).run Try.prog w = .ok (.bool a.isNone) w := fun w a n c n' c' => Lib.run_eql_slice_nil w _ _ a n c n' c' Try.underlying22
    cases A0 with
    | none =>
      have h0 : l0.length = 0 := by
        rcases Nat.eq_zero_or_pos l0.length with h0 | h0
        · exact h0
        · obtain ⟨ad, he, _⟩ := HR0.out.2.2 h0
          cases he
      obtain rfl : l0 = [] := List.length_eq_zero_iff.1 h0
      go_enter Try.func32, Try.ntmps32
      go_wp2
      go_ret
      exact ⟨_, rfl, Kd.R_nil _ _ _ _ _, HB.out⟩
    | some a =>
      go_enter Try.func32, Try.ntmps32
      go_wp2_with (first | ((with_reducible refine gate_dst (N := 5) rfl ?_); (try (refine gate_guard (by rfl) ?_; dsimp only)); refine Kd.R_lit (Kd.int .u8) _ 5 ?hg (N := 5) ?hd (xs := ([] : List Int)) (inner := []) (ok := fun _ => True) (okp := fun _ => True) ?hr ?hp (fun _ hk => hk) trivial (Below.refl _ _) (Nat.le_refl _) (by simp) ?_; (case hd => rfl); (case hg => rfl); (case hr => first | (go_simp; done) | (go_simp; rfl)); (case hp => exact (Reps.none _ _)); intro v1 w1 ho1 hb1 hg1 hn1; clear hg1 hn1; have HO1 := Aside0.mk ho1; have HB1 := Aside0.mk hb1; clear ho1 hb1; obtain ⟨Ao, co, eo⟩ := Kd.R_slice HO1.out; subst eo) | ((with_reducible refine gate_builtin (b := .append) (xs := #[.tmp 5, .tmp 6]) rfl ?_); at_builtin; refine Kd.R_append_rows (Kd.int .u8) (w0 := w) w.heap.size rfl (.tmp 5) (.tmp 6) 22 5 (.int .u8 0) 1 rfl Try.underlying22 info5 rfl (by decide) (by omega) (.slice Ao ([] : List Int).length co) ([] : List Int) l0 _ _ _ (fun _ => True) (fun _ => False) rfl rfl ?aO ?aR (fun _ _ h => h) (fun _ h => h.elim) ?aF ?aB ?aS ?aL ?_; (case aR => exact Kd.C_below HR0.out HB1.out); (case aB => exact HB1.out); (case aF => exact (fun _ _ => trivial)); (case aO => exact HO1.out); (case aS => exact below_size HB1.out); (case aL => have := LM.out; simp; omega); intro v2 w2 ho2 hb2 hg2 hat2; have HO2 := Aside0.mk ho2; have HB2 := Aside0.mk hb2; clear ho2 hb2 hg2 hat2))
      go_ret
      exact ⟨_, rfl, HO2.out, HB2.out⟩
  · rw [if_neg c2] at H
    exact absurd H (by simp)

/-! ### quill_take: function 43 (a leaf, by hand) -/
/-- What 'take' answers: a number, where the rest lies, what is wrong. -/
def TakeEnd (q : Int × List Int × Int) (w : World) (e : Ending) (w' : World) : Prop :=
  ∃ (A : Option Addr) (c : Nat), e = .returned (.tuple #[.int .i64 q.1, .slice A q.2.1.length c, .int .i64 q.2.2]) ∧ Kd.C (Kd.int .u8) w A q.2.1.length q.2.1 ∧ q.2.1.length ≤ c ∧ Drawn0 w w'
theorem rd_cons (b : Int) (t : List Int) : rd (b :: t) 0 = b := rfl
set_option maxHeartbeats 8000000 in
set_option maxRecDepth 100000 in
theorem quill_take.calls_none (A0 : Option Addr) (c0 : Nat) (w : World) : Calls Try.prog 43 #[.slice A0 0 c0] w (TakeEnd (0, [], 3) w) := by
  go_enter Try.func43, Try.ntmps43
  go_wp2
  go_ret3
  exact ⟨none, 0, rfl, Kd.C_nil _ _, Nat.le_refl _, Drawn0.refl _⟩
set_option maxHeartbeats 8000000 in
set_option maxRecDepth 100000 in
theorem quill_take.calls_many (A0 : Option Addr) (c0 : Nat) (b : Int) (t : List Int) (w : World) (hr0 : Kd.C (Kd.int .u8) w A0 (b :: t).length (b :: t)) (h7 : 7 < b) :
    Calls Try.prog 43 #[.slice A0 (b :: t).length c0] w (TakeEnd (0, [], 4) w) := by
  obtain ⟨l0, hl0⟩ : ∃ l0, l0 = b :: t := ⟨_, rfl⟩
  rw [← hl0] at hr0 ⊢
  have hb : rd l0 0 = b := by rw [hl0]; rfl
  have hlen : 0 < l0.length := by rw [hl0]; exact Nat.succ_pos _
  obtain ⟨ad, e104, hx⟩ := Kd.at_int hr0 0 (by omega) (by omega)
  cases e104
  rw [hb, show ((0 : Int)).toNat = 0 from rfl, Addr.add_zero'] at hx
  have hz : ((l0.length : Int) == 0) = false := by rw [beq_eq_false_iff_ne]; omega
  clear hb hl0 hr0
  go_enter Try.func43, Try.ntmps43
  go_wp2
  go_ret3
  exact ⟨none, 0, rfl, Kd.C_nil _ _, Nat.le_refl _, Drawn0.refl _⟩
set_option maxHeartbeats 8000000 in
set_option maxRecDepth 100000 in
theorem quill_take.calls_short (A0 : Option Addr) (c0 : Nat) (m : Nat) (t : List Int) (w : World) (hr0 : Kd.C (Kd.int .u8) w A0 ((m : Int) :: t).length ((m : Int) :: t)) (h7 : m ≤ 7) (hs : t.length < m) :
    Calls Try.prog 43 #[.slice A0 ((m : Int) :: t).length c0] w (TakeEnd (0, [], 3) w) := by
  obtain ⟨l0, hl0⟩ : ∃ l0, l0 = (m : Int) :: t := ⟨_, rfl⟩
  rw [← hl0] at hr0 ⊢
  have hb : rd l0 0 = (m : Int) := by rw [hl0]; rfl
  have hlen : 0 < l0.length := by rw [hl0]; exact Nat.succ_pos _
  have hlt : l0.length = t.length + 1 := by rw [hl0]; rfl
  have hs2 : l0.length ≤ m := by omega
  obtain ⟨ad, e104, hx⟩ := Kd.at_int hr0 0 (by omega) (by omega)
  cases e104
  rw [hb, show ((0 : Int)).toNat = 0 from rfl, Addr.add_zero'] at hx
  have hz : ((l0.length : Int) == 0) = false := by rw [beq_eq_false_iff_ne]; omega
  clear hb hl0 hr0 hlt hs
  go_enter Try.func43, Try.ntmps43
  go_wp2
  go_ret3
  exact ⟨none, 0, rfl, Kd.C_nil _ _, Nat.le_refl _, Drawn0.refl _⟩
theorem qNum_take_step (own : List Int) (h : Byts own) (h7 : own.length ≤ 7) (k : Nat) (hk : k < own.length) :
    Go.bits .or .i64 (wrap64 (qNum (own.take k) * 256)) (wrap64 (rd own k)) = qNum (own.take (k + 1)) := by
  have hb := qNum_bd (own.take k) (h.take k)
  have hl : (own.take k).length = k := by rw [List.length_take]; omega
  rw [hl] at hb
  have hp : (256 : Int) ^ k ≤ 256 ^ 6 := by
    have h : ∀ j : Fin 7, (256 : Int) ^ (j : Nat) ≤ 256 ^ 6 := by decide
    exact h ⟨k, by omega⟩
  have hp6 : (256 : Int) ^ 6 = 281474976710656 := rfl
  have hc := h own[k] (List.getElem_mem hk)
  have hr : rd own k = own[k] := by simp [rd, List.getD_eq_getElem?_getD, List.getElem?_eq_getElem hk]
  rw [List.take_succ_eq_append_getElem hk, qNum_snoc, hr]
  have hw : wrap64 (qNum (own.take k) * 256) = qNum (own.take k) * 256 := by unfold wrap64; omega
  have hw2 : wrap64 own[k] = own[k] := by unfold wrap64; omega
  rw [hw, hw2]
  exact or_shift _ _ hb.1 (by omega) hc.1 hc.2
set_option maxHeartbeats 8000000 in
set_option maxRecDepth 100000 in
theorem quill_take.calls_whole (A0 : Option Addr) (c0 : Nat) (m : Nat) (t : List Int) (w : World) (hB : Byts ((m : Int) :: t)) (hr0 : Kd.C (Kd.int .u8) w A0 ((m : Int) :: t).length ((m : Int) :: t)) (hc0 : ((m : Int) :: t).length ≤ c0) (h7 : m ≤ 7) (hs : m ≤ t.length) :
    Calls Try.prog 43 #[.slice A0 ((m : Int) :: t).length c0] w (TakeEnd (qTake ((m : Int) :: t)) w) := by
  obtain ⟨l0, hl0⟩ : ∃ l0, l0 = (m : Int) :: t := ⟨_, rfl⟩
  obtain ⟨own, hown⟩ : ∃ own, own = t.take m := ⟨_, rfl⟩
  obtain ⟨rest, hrt⟩ : ∃ rest, rest = t.drop m := ⟨_, rfl⟩
  have hq : qTake ((m : Int) :: t) = if own.head? = some 0 ∨ 9007199254740991 < qNum own then (0, [], 4) else (qNum own, rest, 0) := by
    rw [qTake_cons, if_neg (by omega), if_neg (by omega), Int.toNat_natCast, ← hown, ← hrt]
  obtain ⟨q, hqq⟩ : ∃ q, q = qTake ((m : Int) :: t) := ⟨_, rfl⟩
  rw [← hqq] at hq ⊢
  have HQ := Aside0.mk hq
  clear hq hqq
  have hBo : Aside0 (Byts own) := ⟨by rw [hown]; exact hB.tail.take m⟩
  have hol : own.length = m := by rw [hown, List.length_take]; omega
  have ho0 : (l0.take (1 + (m : Int)).toNat).drop (1 : Int).toNat = own := by
    rw [hl0, hown]
    have : (1 + (m : Int)).toNat = m + 1 := by omega
    rw [this]
    rfl
  have hrest : l0.drop (1 + (m : Int)).toNat = rest := by
    rw [hl0, hrt]
    have : (1 + (m : Int)).toNat = m + 1 := by omega
    rw [this]
    rfl
  rw [← hl0] at hr0 hc0 ⊢
  have hb : rd l0 0 = (m : Int) := by rw [hl0]; rfl
  have hlt : l0.length = t.length + 1 := by rw [hl0]; rfl
  obtain ⟨i01, hi01, _, hsz1, _⟩ := info_parts info5
  obtain ⟨A1, hcut1, hA1, hC1⟩ := print_mid3_of (P := Try.prog) (Value.int .u8) 0 22 5 .i64 .i64 .i64 Try.underlying22 hi01 hsz1 A0 c0 l0 1 (1 + (m : Int)) (by omega) (by omega) (by omega) hc0
  obtain ⟨A2, hcut2, hA2, hC2⟩ := print_drop_of (P := Try.prog) (Value.int .u8) 0 22 5 .i64 Try.underlying22 hi01 hsz1 A0 c0 l0 (1 + (m : Int)) (by omega) (by omega) hc0
  rw [ho0] at hcut1 hC1
  rw [hrest] at hcut2 hC2
  have HR1 : Aside0 (Kd.C (Kd.int .u8) w A1 own.length own) := ⟨by
    have := Kd.C_of_reads (h1 := fun _ => rfl) (hA1 w (Kd.reads_of_C hr0))
    rw [ho0] at this
    exact this⟩
  have HR2 : Aside0 (Kd.C (Kd.int .u8) w A2 rest.length rest) := ⟨by
    have := Kd.C_of_reads (h1 := fun _ => rfl) (hA2 w (Kd.reads_of_C hr0))
    rw [hrest] at this
    exact this⟩
  have HC2 := Aside0.mk hC2
  clear hA1 hA2 hC1 hC2 hi01 hsz1
  obtain ⟨ad, e104, hx⟩ := Kd.at_int hr0 0 (by omega) (by omega)
  cases e104
  rw [hb, show ((0 : Int)).toNat = 0 from rfl, Addr.add_zero'] at hx
  have hz : ((l0.length : Int) == 0) = false := by rw [beq_eq_false_iff_ne]; omega
  have hs2 : m + 1 ≤ l0.length := by omega
  have hmax : l0.length ≤ 9223372036854775807 := by have := Kd.C_max hr0; omega
  have hol1 : own.length ≤ 7 := by omega
  have b1 : decide ((7 : Int) < (m : Int)) = false := decide_eq_false (by omega)
  have b2 : decide ((l0.length : Int) - 1 < (m : Int)) = false := decide_eq_false (by omega)
  have b3 : 1 + (m : Int) ≤ (c0 : Int) := by omega
  have HOL := Aside0.mk hol
  clear hb hl0 hr0 hlt hs ho0 hrest hown hrt hB hol
  go_enter Try.func43, Try.ntmps43
  go_wp2_with fail
  go_loopg [2, 38] own.length (fun kq v2 v38 w' => ∃ (k : Nat), v2 = .int .i64 (qNum (own.take k)) ∧ v38 = .int .i64 k ∧ Aside0 (kq + k = own.length) ∧ Drawn0 w w')
  case atStart => exact ⟨0, rfl, rfl, ⟨rfl⟩, Drawn0.refl _⟩
  case round =>
    obtain ⟨k, rfl, rfl, HK, ⟨m1, rfl⟩⟩ := hrel
    cases gk with
    | succ k1 =>
      have hk : k < own.length := by have := HK.out; omega
      have hkb : decide (k < own.length) = true := decide_eq_true hk
      obtain ⟨ad1, e105, hx1⟩ := Kd.at_int HR1.out k (by omega) (by omega)
      cases e105
      simp only [Int.toNat_natCast] at hx1
      have HS := Aside0.mk (qNum_take_step own hBo.out hol1 k hk)
      go_wp2
      go_roundg k1
      case measure => omega
      case rel => exact ⟨k + 1, by rw [← HS.out], by go_num, ⟨by have := HK.out; omega⟩, by repeat (first | exact Drawn0.refl _ | apply Drawn0.step)⟩
    | zero =>
      have hk : k = own.length := by have := HK.out; omega
      have hkb : decide (k < own.length) = false := decide_eq_false (by omega)
      have hkq : qNum (own.take k) = qNum own := by rw [hk, List.take_length]
      rw [hkq]
      clear hkq HK hk
      have hx9 : (1 + (m : Int)).toNat = m + 1 := by omega
      rw [hx9] at HC2 hcut2
      clear hx9
      by_cases hown0 : own.length = 0
      · have hnil : own = [] := List.length_eq_zero_iff.1 hown0
        have hq := HQ.out
        rw [if_neg (by rw [hnil]; rintro (h | h); · cases h
                       · revert h; decide)] at hq
        have HQ1 := Aside0.mk hq
        have hlz : decide ((0 : Int) < (own.length : Int)) = false := decide_eq_false (by omega)
        have hlz2 : decide (0 < own.length) = false := decide_eq_false (by omega)
        have hqz : Aside0 (qNum own = 0) := ⟨by rw [hnil]; rfl⟩
        have hbg : decide (9007199254740991 < qNum own) = false := decide_eq_false (by have := hqz.out; omega)
        clear hq HQ hnil hown0 hqz
        go_wp2
        go_quiet (fail)
        go_wp2
        go_ret3
        exact ⟨_, _, by rw [HQ1.out]; rfl, by rw [HQ1.out]; exact HR2.out, by rw [HQ1.out]; exact HC2.out, by repeat (first | exact Drawn0.refl _ | apply Drawn0.step)⟩
      · have hlp : 0 < own.length := by omega
        obtain ⟨ad2, e106, hx2⟩ := Kd.at_int HR1.out 0 (by omega) (by omega)
        cases e106
        rw [show ((0 : Int)).toNat = 0 from rfl, Addr.add_zero'] at hx2
        have hlz : decide ((0 : Int) < (own.length : Int)) = true := decide_eq_true (by omega)
        have hlz2 : decide (0 < own.length) = true := decide_eq_true (by omega)
        have hhead : own.head? = some (rd own 0) := by
          cases own with
          | nil => cases hlp
          | cons x own1 => rfl
        obtain ⟨x, hx⟩ : ∃ x, x = rd own 0 := ⟨_, rfl⟩
        rw [← hx] at hhead hx2
        clear hx hown0
        by_cases hx0 : x = 0
        · have hq := HQ.out
          rw [if_pos (.inl (by rw [hhead, hx0]))] at hq
          have HQ1 := Aside0.mk hq
          have hxb : ((x : Int) == 0) = true := by rw [hx0]; rfl
          clear hq HQ hhead hx0
          go_wp2
          go_ret3
          exact ⟨none, 0, by rw [HQ1.out]; rfl, by rw [HQ1.out]; exact Kd.C_nil _ _, by rw [HQ1.out]; exact Nat.le_refl _, by repeat (first | exact Drawn0.refl _ | apply Drawn0.step)⟩
        · have hxb : ((x : Int) == 0) = false := by rw [beq_eq_false_iff_ne]; exact hx0
          by_cases hbig : 9007199254740991 < qNum own
          · have hq := HQ.out
            rw [if_pos (.inr hbig)] at hq
            have HQ1 := Aside0.mk hq
            have hbg : decide (9007199254740991 < qNum own) = true := decide_eq_true hbig
            clear hq HQ hhead hx0
            go_wp2
            go_ret3
            exact ⟨none, 0, by rw [HQ1.out]; rfl, by rw [HQ1.out]; exact Kd.C_nil _ _, by rw [HQ1.out]; exact Nat.le_refl _, by repeat (first | exact Drawn0.refl _ | apply Drawn0.step)⟩
          · have hq := HQ.out
            rw [if_neg (by rw [hhead]; rintro (h | h); · exact hx0 (by simpa using h)
                           · exact hbig h)] at hq
            have HQ1 := Aside0.mk hq
            have hbg : decide (9007199254740991 < qNum own) = false := decide_eq_false hbig
            clear hq HQ hhead hx0
            go_wp2
            go_quiet (fail)
            go_wp2
            go_ret3
            exact ⟨_, _, by rw [HQ1.out]; rfl, by rw [HQ1.out]; exact HR2.out, by rw [HQ1.out]; exact HC2.out, by repeat (first | exact Drawn0.refl _ | apply Drawn0.step)⟩
/-- The whole of it. -/
theorem quill_take.calls (A0 : Option Addr) (c0 : Nat) (l0 : List Int) (w : World) (hB : Byts l0) (hr0 : Kd.C (Kd.int .u8) w A0 l0.length l0) (hc0 : l0.length ≤ c0) :
    Calls Try.prog 43 #[.slice A0 l0.length c0] w (TakeEnd (qTake l0) w) := by
  cases l0 with
  | nil => exact quill_take.calls_none A0 c0 w
  | cons b t =>
    have hb := hB b (by simp)
    by_cases h7 : 7 < b
    · have e : qTake (b :: t) = (0, [], 4) := by rw [qTake_cons, if_pos h7]
      rw [e]
      exact quill_take.calls_many A0 c0 b t w hr0 h7
    · obtain ⟨m, rfl⟩ := Int.eq_ofNat_of_zero_le hb.1
      by_cases hs : t.length < m
      · have e : qTake ((m : Int) :: t) = (0, [], 3) := by rw [qTake_cons, if_neg h7, if_pos (by omega)]
        rw [e]
        exact quill_take.calls_short A0 c0 m t w hr0 (by omega) hs
      · exact quill_take.calls_whole A0 c0 m t w hB hr0 hc0 (by omega) (by omega)

/-! ### quill_TakeNum: function 39 (a leaf, by hand) -/
def quill_TakeNum.f (l0 : List Int) : Option (Int × List Int × Int) := if isByts l0 = true ∧ l0.length < 140737488355328 then (some (qTake l0)) else (none)
set_option maxHeartbeats 8000000 in
set_option maxRecDepth 100000 in
theorem quill_TakeNum.calls (A0 : Option Addr) (c0 : Nat) (l0 : List Int) (r1 : Int) (r2 : List Int) (r3 : Int) (w : World) (hr0 : Kd.C (Kd.int .u8) w A0 l0.length l0) (hc0 : l0.length ≤ c0) (h : quill_TakeNum.f l0 = some (r1, r2, r3)) :
    Calls Try.prog 39 #[.slice A0 l0.length c0] w fun e w' => ∃ v1_ : Value, e = .returned (.tuple #[.int .i64 r1, v1_, .int .i64 r3]) ∧ Kd.R (Kd.int .u8) 5 w' w.heap.size (fun _ => True) v1_ r2 ∧ Below w.heap.size w w' := by
  unfold quill_TakeNum.f at h
  by_cases hc : isByts l0 = true ∧ l0.length < 140737488355328
  · rw [if_pos hc] at h
    have hq := Option.some.inj h
    clear h
    have HR0 := Aside0.mk hr0
    have HC0 := Aside0.mk hc0
    have HBy := Aside0.mk ((isByts_iff l0).1 hc.1)
    have hl2 : r2.length < 140737488355328 := by have := qTake_len l0; rw [hq] at this; have : r2.length ≤ l0.length := this; omega
    have hcl : slices_Clone_byte_byte.f r2 = some r2 := if_pos hl2
    have HQ := Aside0.mk hq
    have HCL := Aside0.mk hcl
    clear hr0 hc0 hc hq hcl hl2
    go_enter Try.func39, Try.ntmps39
    go_wp2_with fail
    refine (quill_take.calls A0 c0 l0 _ HBy.out HR0.out HC0.out).mono ?_
    rw [HQ.out]
    rintro e w1 ⟨A, c, rfl, hC, hcl, hd⟩
    dsimp only at hC hcl
    have HC1 := Aside0.mk (Kd.C_below hC hd.below)
    have HB1 := Aside0.mk hd.below
    clear hC hd
    go_wp2_with fail
    refine (slices_Clone_byte_byte.calls A c r2 r2 _ HC1.out hcl HCL.out).mono ?_
    rintro e w2 ⟨v2, rfl, ho, hb⟩
    have HO := Aside0.mk (Kd.R_lower ho (below_size HB1.out))
    have HB := Aside0.mk (below_step HB1.out hb)
    clear ho hb
    go_wp2
    go_ret3
    exact ⟨_, rfl, HO.out, HB.out⟩
  · rw [if_neg hc] at h
    exact absurd h (by simp)

/-! ### slices_Equal_byte_byte: function 40 -/
def slices_Equal_byte_byte.l0 : Nat → List Int → List Int → Int → Int → Option (Bool)
  | 0, _, _, _, _ => none
  | k + 1, x0, x1, x12, x13 => if x13 < x12 then (if 0 ≤ x13 then (if x13 < (x0.length : Int) then (if x13 < (x1.length : Int) then (if (rd x0 x13) = (rd x1 x13) then (slices_Equal_byte_byte.l0 k x0 x1 x12 (wrap64 (x13 + 1))) else (some false)) else (none)) else (none)) else (none)) else (some true)
def slices_Equal_byte_byte.f (k : Nat) (l0 : List Int) (l1 : List Int) : Option (Bool) := if (l0.length : Int) = (l1.length : Int) then (slices_Equal_byte_byte.l0 k l0 l1 (l0.length : Int) 0) else (some false)
theorem slices_Equal_byte_byte.mono_l : ∀ k, (∀ y0 y1 y2 y3, LeO (slices_Equal_byte_byte.l0 k y0 y1 y2 y3) (slices_Equal_byte_byte.l0 (k + 1) y0 y1 y2 y3))
  | 0 => fun _ _ _ _ r h => by simp [slices_Equal_byte_byte.l0] at h
  | k + 1 => by
    have ih0 := slices_Equal_byte_byte.mono_l k
    · intro y0 y1 y2 y3
      unfold slices_Equal_byte_byte.l0
      repeat' first
      | (with_reducible exact ih0 _ _ _ _)
      | (with_reducible exact LeO.refl _)
      | (with_reducible exact LeO.none _)
      | (with_reducible refine LeO.ite ?_ ?_)
      | (with_reducible refine LeO.bind ?_ (fun _ => ?_))
      | exact ih0 _ _ _ _
      | exact LeO.none _
      | refine LeO.ite ?_ ?_
      | refine LeO.bind ?_ (fun _ => ?_)
theorem slices_Equal_byte_byte.mono : ∀ a0 a1 k, LeO (slices_Equal_byte_byte.f k a0 a1) (slices_Equal_byte_byte.f (k + 1) a0 a1) := by
  intro a0 a1 k
  have ih0 := slices_Equal_byte_byte.mono_l k
  unfold slices_Equal_byte_byte.f
  repeat' first
      | (with_reducible exact ih0 _ _ _ _)
      | (with_reducible exact LeO.refl _)
      | (with_reducible exact LeO.none _)
      | (with_reducible refine LeO.ite ?_ ?_)
      | (with_reducible refine LeO.bind ?_ (fun _ => ?_))
      | exact ih0 _ _ _ _
      | exact LeO.none _
      | refine LeO.ite ?_ ?_
      | refine LeO.bind ?_ (fun _ => ?_)
set_option maxHeartbeats 8000000 in
set_option maxRecDepth 100000 in
theorem slices_Equal_byte_byte.calls (k : Nat) (A0 : Option Addr) (c0 : Nat) (l0 : List Int) (A1 : Option Addr) (c1 : Nat) (l1 : List Int) (r : Bool) (w : World) (hr0 : Kd.C (Kd.int .u8) w A0 l0.length l0) (hc0 : l0.length ≤ c0) (hr1 : Kd.C (Kd.int .u8) w A1 l1.length l1) (hc1 : l1.length ≤ c1) (h : slices_Equal_byte_byte.f k l0 l1 = some r) :
    Calls Try.prog 40 #[.slice A0 l0.length c0, .slice A1 l1.length c1] w fun e w' => e = .returned (.bool r) ∧ Drawn0 w w' := by
  have HR0 := Aside0.mk hr0
  have HC0 := Aside0.mk hc0
  clear hr0 hc0
  have HR1 := Aside0.mk hr1
  have HC1 := Aside0.mk hc1
  clear hr1 hc1
  have H : (if (l0.length : Int) = (l1.length : Int) then (slices_Equal_byte_byte.l0 k l0 l1 (l0.length : Int) 0) else (some false)) = some r := h
  clear h
  by_cases c3 : (l0.length : Int) = (l1.length : Int)
  · rw [if_pos c3] at H
    have c3b0 : ((l0.length : Int) == (l1.length : Int)) = true := beq_iff_eq.mpr c3
    have c3b1 : ((l0.length : Int) != (l1.length : Int)) = false := bne_eq_false_iff_eq.mpr c3
    have c3b2 : (l0.length == l1.length) = true := by first | simpa using c3 | (simp at c3 ⊢; omega)
    clear c3
    have H' := Aside0.mk H
    clear H
    go_enter Try.func40, Try.ntmps40
    go_wp2
    repeat (go_quiet (fail); try go_wp2)
    go_loopg [13] k (fun kq v13 w' => ∃ (x13_1 : Int), v13 = .int .i64 x13_1 ∧ Aside0 (slices_Equal_byte_byte.l0 kq l0 l1 (l0.length : Int) x13_1 = some r) ∧ Aside0 (kq ≤ k) ∧ Drawn0 w w')
    case atStart => exact ⟨(0), (by first | rfl | (simp; done) | (simp [*]; done)), H', ⟨Nat.le_refl _⟩, by repeat (first | exact Drawn0.refl _ | apply Drawn0.step)⟩
    case round =>
      clear H'
      try clear c1
      try clear p2
      try clear c3
      try clear c3b0
      try clear c3b1
      try clear c3b2
      obtain ⟨x13_1, rfl, HA, HK1, ⟨m1, rfl⟩⟩ := hrel
      cases gk with
      | zero => exact absurd HA.out (by simp [slices_Equal_byte_byte.l0])
      | succ k1 =>
        have H := HA.out
        clear HA
        simp only [slices_Equal_byte_byte.l0] at H
        by_cases c4 : x13_1 < (l0.length : Int)
        · rw [if_pos c4] at H
          have c4b0 : decide (x13_1 < (l0.length : Int)) = true := decide_eq_true c4
          clear c4
          by_cases c5 : 0 ≤ x13_1
          · rw [if_pos c5] at H
            have c5b0 : decide (0 ≤ x13_1) = true := decide_eq_true c5
            clear c5
            by_cases c6 : x13_1 < (l0.length : Int)
            · rw [if_pos c6] at H
              have c6b0 : decide (x13_1 < (l0.length : Int)) = true := decide_eq_true c6
              clear c6
              by_cases c7 : x13_1 < (l1.length : Int)
              · rw [if_pos c7] at H
                have c7b0 : decide (x13_1 < (l1.length : Int)) = true := decide_eq_true c7
                clear c7
                by_cases c8 : (rd l0 x13_1) = (rd l1 x13_1)
                · rw [if_pos c8] at H
                  have c8b0 : ((rd l0 x13_1) == (rd l1 x13_1)) = true := beq_iff_eq.mpr c8
                  have c8b1 : ((rd l0 x13_1) != (rd l1 x13_1)) = false := bne_eq_false_iff_eq.mpr c8
                  clear c8
                  have H' := Aside0.mk H
                  clear H
                  have p174 : 0 ≤ (x13_1 : Int) := of_decide_eq_true (by first | (with_reducible assumption) | assumption)
                  have q174 : x13_1 < (l0.length : Int) := of_decide_eq_true (by first | (with_reducible assumption) | assumption)
                  obtain ⟨ad174, e174, hx174_0⟩ := Kd.at_int HR0.out x13_1 p174 q174
                  cases e174
                  replace p174 := eq_true p174
                  replace q174 := eq_true q174
                  have p175 : 0 ≤ (x13_1 : Int) := of_decide_eq_true (by first | (with_reducible assumption) | assumption)
                  have q175 : x13_1 < (l1.length : Int) := of_decide_eq_true (by first | (with_reducible assumption) | assumption)
                  obtain ⟨ad175, e175, hx175_0⟩ := Kd.at_int HR1.out x13_1 p175 q175
                  cases e175
                  replace p175 := eq_true p175
                  replace q175 := eq_true q175
                  go_wp2
                  repeat (go_quiet (fail); try go_wp2)
                  go_roundg k1
                  case measure => have := HK1.out; omega
                  case rel => exact ⟨(wrap64 (x13_1 + 1)), (by first | rfl | (simp; done) | (simp [*]; done)), H', ⟨by have := HK1.out; omega⟩, by repeat (first | exact Drawn0.refl _ | apply Drawn0.step)⟩
                · rw [if_neg c8] at H
                  have c8b0 : ((rd l0 x13_1) == (rd l1 x13_1)) = false := beq_eq_false_iff_ne.mpr c8
                  have c8b1 : ((rd l0 x13_1) != (rd l1 x13_1)) = true := bne_iff_ne.mpr c8
                  obtain rfl := Option.some.inj H
                  have p174 : 0 ≤ (x13_1 : Int) := of_decide_eq_true (by first | (with_reducible assumption) | assumption)
                  have q174 : x13_1 < (l0.length : Int) := of_decide_eq_true (by first | (with_reducible assumption) | assumption)
                  obtain ⟨ad174, e174, hx174_0⟩ := Kd.at_int HR0.out x13_1 p174 q174
                  cases e174
                  replace p174 := eq_true p174
                  replace q174 := eq_true q174
                  have p175 : 0 ≤ (x13_1 : Int) := of_decide_eq_true (by first | (with_reducible assumption) | assumption)
                  have q175 : x13_1 < (l1.length : Int) := of_decide_eq_true (by first | (with_reducible assumption) | assumption)
                  obtain ⟨ad175, e175, hx175_0⟩ := Kd.at_int HR1.out x13_1 p175 q175
                  cases e175
                  replace p175 := eq_true p175
                  replace q175 := eq_true q175
                  go_wp2
                  repeat (go_quiet (fail); try go_wp2)
                  go_ret
                  exact ⟨by first | rfl | (simp; done) | (simp [*]; done), by repeat (first | exact Drawn0.refl _ | apply Drawn0.step)⟩
              · rw [if_neg c7] at H
                exact absurd H (by simp)
            · rw [if_neg c6] at H
              exact absurd H (by simp)
          · rw [if_neg c5] at H
            exact absurd H (by simp)
        · rw [if_neg c4] at H
          have c4b0 : decide (x13_1 < (l0.length : Int)) = false := decide_eq_false c4
          clear c4
          obtain rfl := Option.some.inj H
          go_wp2
          repeat (go_quiet (fail); try go_wp2)
          go_ret
          exact ⟨by first | rfl | (simp; done) | (simp [*]; done), by repeat (first | exact Drawn0.refl _ | apply Drawn0.step)⟩
  · rw [if_neg c3] at H
    have c3b0 : ((l0.length : Int) == (l1.length : Int)) = false := beq_eq_false_iff_ne.mpr c3
    have c3b1 : ((l0.length : Int) != (l1.length : Int)) = true := bne_iff_ne.mpr c3
    have c3b2 : (l0.length == l1.length) = false := by first | simpa using c3 | (simp at c3 ⊢; omega)
    obtain rfl := Option.some.inj H
    go_enter Try.func40, Try.ntmps40
    go_wp2
    repeat (go_quiet (fail); try go_wp2)
    go_ret
    exact ⟨by first | rfl | (simp; done) | (simp [*]; done), by repeat (first | exact Drawn0.refl _ | apply Drawn0.step)⟩

end Go.Proofs.Ytkboplflbokofaa.PFrameMakes
