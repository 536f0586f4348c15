/- Written by xprint.py, a program of these sessions (over the print of the kit, with leaves typed by hand): one Lean function for each Go function, and the proof that the Go code comes to its answers. -/
import Derived.Test.YtclbcmblgbinpaaPQuillTakesx0
import Derived.Test.YtclbcmblgbinpaaPQuillTakesx1
import Derived.Test.YtclbcmblgbinpaaPQuillTakesx2
namespace Go.Proofs.Ytclbcmblgbinpaa.PQuillTakes
open Go.RowKit Go.Proofs.YtclbcmblgbinpaaW.PrintWords Go.Proofs.YtclbcmblgbinpaaW.PrintLast Go.Proofs.YtclbcmblgbinpaaW.PrintMore
attribute [local go_sem] max2_int min2_int max_two min_two max_three min_three max_four min_four   -- for this text's walks alone
set_option linter.unusedVariables false
set_option linter.unusedSimpArgs false

/-! ### scriptoriumref01_TakeNum: function 20 -/
def scriptoriumref01_TakeNum.l0 : Nat → List Int → Int → Int → Int → Option (Int × List Int × Int)
  | 0, _, _, _, _ => none
  | k + 1, x0, x5, x6, x7 => if x7 ≤ x5 then (if 0 ≤ x7 then (if x7 < (x0.length : Int) then (scriptoriumref01_TakeNum.l0 k x0 x5 (wrap64 ((wrap64 (x6 * 256)) + (wrap64 (rd x0 x7)))) (wrap64 (x7 + 1))) else (none)) else (none)) else ((scriptoriumref01_Num.f k x6).bind fun bt141 => (if bt141.2 = 0 then (if 0 ≤ (wrap64 (1 + x5)) then (if (wrap64 (1 + x5)) ≤ (x0.length : Int) then ((scriptoriumref00_EqBytes.f k bt141.1 (x0.take ((wrap64 (1 + x5)) : Int).toNat)).bind fun t146 => (if t146 = true then ((scriptoriumref00_CopyBytes.f (x0.drop ((wrap64 (1 + x5)) : Int).toNat)).bind fun t148 => (some (x6, t148, 0))) else (some (0, ([] : List Int), 4)))) else (none)) else (none)) else (some (0, ([] : List Int), 4))))
def scriptoriumref01_TakeNum.f (k : Nat) (l0 : List Int) : Option (Int × List Int × Int) := if (l0.length : Int) = 0 then (some (0, ([] : List Int), 3)) else (if 0 < (l0.length : Int) then (if (wrap64 (rd l0 0)) > 7 then (some (0, ([] : List Int), 4)) else (if (l0.length : Int) < (wrap64 (1 + (wrap64 (rd l0 0)))) then (some (0, ([] : List Int), 3)) else (scriptoriumref01_TakeNum.l0 k l0 (wrap64 (rd l0 0)) 0 1))) else (none))
theorem scriptoriumref01_TakeNum.mono_l : ∀ k, (∀ y0 y1 y2 y3, LeO (scriptoriumref01_TakeNum.l0 k y0 y1 y2 y3) (scriptoriumref01_TakeNum.l0 (k + 1) y0 y1 y2 y3))
  | 0 => fun _ _ _ _ r h => by simp [scriptoriumref01_TakeNum.l0] at h
  | k + 1 => by
    have ih0 := scriptoriumref01_TakeNum.mono_l k
    · intro y0 y1 y2 y3
      unfold scriptoriumref01_TakeNum.l0
      repeat' first
      | (with_reducible exact ih0 _ _ _ _)
      | (with_reducible exact scriptoriumref00_EqBytes.mono _ _ _)
      | (with_reducible exact scriptoriumref01_Num.mono _ _)
      | (with_reducible exact LeO.refl _)
      | (with_reducible exact LeO.none _)
      | (with_reducible refine LeO.ite ?_ ?_)
      | (with_reducible refine LeO.bind ?_ (fun _ => ?_))
      | exact ih0 _ _ _ _
      | exact scriptoriumref00_EqBytes.mono _ _ _
      | exact scriptoriumref01_Num.mono _ _
      | exact LeO.none _
      | refine LeO.ite ?_ ?_
      | refine LeO.bind ?_ (fun _ => ?_)
theorem scriptoriumref01_TakeNum.mono : ∀ a0 k, LeO (scriptoriumref01_TakeNum.f k a0) (scriptoriumref01_TakeNum.f (k + 1) a0) := by
  intro a0 k
  have ih0 := scriptoriumref01_TakeNum.mono_l k
  unfold scriptoriumref01_TakeNum.f
  repeat' first
      | (with_reducible exact ih0 _ _ _ _)
      | (with_reducible exact scriptoriumref00_EqBytes.mono _ _ _)
      | (with_reducible exact scriptoriumref01_Num.mono _ _)
      | (with_reducible exact LeO.refl _)
      | (with_reducible exact LeO.none _)
      | (with_reducible refine LeO.ite ?_ ?_)
      | (with_reducible refine LeO.bind ?_ (fun _ => ?_))
      | exact ih0 _ _ _ _
      | exact scriptoriumref00_EqBytes.mono _ _ _
      | exact scriptoriumref01_Num.mono _ _
      | exact LeO.none _
      | refine LeO.ite ?_ ?_
      | refine LeO.bind ?_ (fun _ => ?_)
set_option maxHeartbeats 8000000 in
set_option maxRecDepth 100000 in
theorem scriptoriumref01_TakeNum.calls (k : Nat) (A0 : Option Addr) (c0 : Nat) (l0 : List Int) (r1 : Int) (r2 : List Int) (r3 : Int) (w : World) (hr0 : Kd.C (Kd.int .u8) w A0 l0.length l0) (hc0 : l0.length ≤ c0) (h : scriptoriumref01_TakeNum.f k l0 = some (r1, r2, r3)) :
    Calls Try.prog 20 #[.slice A0 l0.length c0] w fun e w' => ∃ v1_ : Value, e = .returned (.tuple #[.int .i64 r1, v1_, .int .i64 r3]) ∧ Kd.R (Kd.int .u8) 5 w' w.heap.size (fun _ => True) v1_ r2 ∧ Below w.heap.size w w' := by
  have HR0 := Aside0.mk hr0
  have HC0 := Aside0.mk hc0
  clear hr0 hc0
  have HB := Aside0.mk (Below.refl w.heap.size w)
  have H : (if (l0.length : Int) = 0 then (some (0, ([] : List Int), 3)) else (if 0 < (l0.length : Int) then (if (wrap64 (rd l0 0)) > 7 then (some (0, ([] : List Int), 4)) else (if (l0.length : Int) < (wrap64 (1 + (wrap64 (rd l0 0)))) then (some (0, ([] : List Int), 3)) else (scriptoriumref01_TakeNum.l0 k l0 (wrap64 (rd l0 0)) 0 1))) else (none))) = some (r1, r2, r3) := h
  clear h
  by_cases c2 : (l0.length : Int) = 0
  · rw [if_pos c2] at H
    have c2b0 : ((l0.length : Int) == 0) = true := beq_iff_eq.mpr c2
    have c2b1 : ((l0.length : Int) != 0) = false := bne_eq_false_iff_eq.mpr c2
    clear c2
    simp only [Option.some.injEq, Prod.mk.injEq] at H
    obtain ⟨rfl, rfl, rfl⟩ := H
    go_enter Try.func20, Try.ntmps20
    go_wp2
    go_ret3
    exact ⟨_, by first | rfl | (simp [errW_none, errW_some] <;> rfl) | (simp [*, errW_none, errW_some] <;> rfl), by first | exact Kd.R_nil _ _ _ _ _ | exact Kd.N_nil _ _ _ _ _ | exact Kd.V_nil _ _ _ _ _ | exact Kd.Q_nil _ _ _ _ _ | exact Kd.S_nil _ _ _ _ _, by repeat (first | (with_reducible first | exact HB.out | apply below_alloc | apply pw_below_drewN | apply below_drew1) | exact HB.out)⟩
  · rw [if_neg c2] at H
    have c2b0 : ((l0.length : Int) == 0) = false := beq_eq_false_iff_ne.mpr c2
    have c2b1 : ((l0.length : Int) != 0) = true := bne_iff_ne.mpr c2
    have c2b2 : ¬ (l0 = []) := fun h_ => c2 (by rw [h_]; rfl)
    by_cases c3 : 0 < (l0.length : Int)
    · rw [if_pos c3] at H
      have c3b0 : decide (0 < (l0.length : Int)) = true := decide_eq_true c3
      have c3b1 : decide (0 < l0.length) = true := decide_eq_true (by omega)
      clear c3
      by_cases c4 : (wrap64 (rd l0 0)) > 7
      · rw [if_pos c4] at H
        have c4b0 : decide (7 < (wrap64 (rd l0 0))) = true := decide_eq_true c4
        clear c4
        simp only [Option.some.injEq, Prod.mk.injEq] at H
        obtain ⟨rfl, rfl, rfl⟩ := H
        have p139 : 0 ≤ (0 : Int) := (by omega)
        have q139 : 0 < (l0.length : Int) := of_decide_eq_true (by first | (with_reducible assumption) | assumption)
        obtain ⟨ad139, e139, hx139_0⟩ := Kd.at_int HR0.out 0 p139 q139
        cases e139
        have qi139 : (0 < l0.length) = True := eq_true (by omega)
        (try rw [show ((0 : Int)).toNat = 0 from rfl] at hx139_0)
        (try rw [Addr.add_zero'] at hx139_0)
        replace p139 := eq_true p139
        replace q139 := eq_true q139
        go_enter Try.func20, Try.ntmps20
        go_wp2
        go_ret3
        exact ⟨_, by first | rfl | (simp [errW_none, errW_some] <;> rfl) | (simp [*, errW_none, errW_some] <;> rfl), by first | exact Kd.R_nil _ _ _ _ _ | exact Kd.N_nil _ _ _ _ _ | exact Kd.V_nil _ _ _ _ _ | exact Kd.Q_nil _ _ _ _ _ | exact Kd.S_nil _ _ _ _ _, by repeat (first | (with_reducible first | exact HB.out | apply below_alloc | apply pw_below_drewN | apply below_drew1) | exact HB.out)⟩
      · rw [if_neg c4] at H
        have c4b0 : decide (7 < (wrap64 (rd l0 0))) = false := decide_eq_false c4
        clear c4
        by_cases c5 : (l0.length : Int) < (wrap64 (1 + (wrap64 (rd l0 0))))
        · rw [if_pos c5] at H
          have c5b0 : decide ((l0.length : Int) < (wrap64 (1 + (wrap64 (rd l0 0))))) = true := decide_eq_true c5
          clear c5
          simp only [Option.some.injEq, Prod.mk.injEq] at H
          obtain ⟨rfl, rfl, rfl⟩ := H
          have p139 : 0 ≤ (0 : Int) := (by omega)
          have q139 : 0 < (l0.length : Int) := of_decide_eq_true (by first | (with_reducible assumption) | assumption)
          obtain ⟨ad139, e139, hx139_0⟩ := Kd.at_int HR0.out 0 p139 q139
          cases e139
          have qi139 : (0 < l0.length) = True := eq_true (by omega)
          (try rw [show ((0 : Int)).toNat = 0 from rfl] at hx139_0)
          (try rw [Addr.add_zero'] at hx139_0)
          replace p139 := eq_true p139
          replace q139 := eq_true q139
          go_enter Try.func20, Try.ntmps20
          go_wp2
          go_ret3
          exact ⟨_, by first | rfl | (simp [errW_none, errW_some] <;> rfl) | (simp [*, errW_none, errW_some] <;> rfl), by first | exact Kd.R_nil _ _ _ _ _ | exact Kd.N_nil _ _ _ _ _ | exact Kd.V_nil _ _ _ _ _ | exact Kd.Q_nil _ _ _ _ _ | exact Kd.S_nil _ _ _ _ _, by repeat (first | (with_reducible first | exact HB.out | apply below_alloc | apply pw_below_drewN | apply below_drew1) | exact HB.out)⟩
        · rw [if_neg c5] at H
          have c5b0 : decide ((l0.length : Int) < (wrap64 (1 + (wrap64 (rd l0 0))))) = false := decide_eq_false c5
          clear c5
          have H' := Aside0.mk H
          clear H
          have p139 : 0 ≤ (0 : Int) := (by omega)
          have q139 : 0 < (l0.length : Int) := of_decide_eq_true (by first | (with_reducible assumption) | assumption)
          obtain ⟨ad139, e139, hx139_0⟩ := Kd.at_int HR0.out 0 p139 q139
          cases e139
          have qi139 : (0 < l0.length) = True := eq_true (by omega)
          (try rw [show ((0 : Int)).toNat = 0 from rfl] at hx139_0)
          (try rw [Addr.add_zero'] at hx139_0)
          replace p139 := eq_true p139
          replace q139 := eq_true q139
          go_enter Try.func20, Try.ntmps20
          go_wp2
          go_loopg [6, 7] k (fun kq v6 v7 w' => ∃ (x6_1 : Int) (x7_1 : Int), v6 = .int .i64 x6_1 ∧ v7 = .int .i64 x7_1 ∧ Aside0 (scriptoriumref01_TakeNum.l0 kq l0 (wrap64 (rd l0 0)) x6_1 x7_1 = some (r1, r2, r3)) ∧ Aside0 (kq ≤ k) ∧ Aside0 (Below w.heap.size w w'))
          case atStart => exact ⟨(0), (1), (by first | rfl | (simp; done) | (simp [*]; done)), (by first | rfl | (simp; done) | (simp [*]; done)), H', ⟨Nat.le_refl _⟩, ⟨by repeat (first | (with_reducible first | exact HB.out | apply below_alloc | apply pw_below_drewN | apply below_drew1) | exact HB.out)⟩⟩
          case round =>
            clear H'
            try clear p1
            try clear q1
            try clear hx1
            try clear qi1
            try clear c2
            try clear c2b0
            try clear c2b1
            try clear c2b2
            try clear p2
            try clear c3
            try clear c3b0
            try clear c3b1
            try clear c4
            try clear c4b0
            try clear c5
            try clear c5b0
            try clear hx139_0
            try clear p139
            try clear q139
            obtain ⟨x6_1, x7_1, rfl, rfl, HA, HK1, HB⟩ := hrel
            cases gk with
            | zero => exact absurd HA.out (by simp [scriptoriumref01_TakeNum.l0])
            | succ k1 =>
              have H := HA.out
              clear HA
              simp only [scriptoriumref01_TakeNum.l0] at H
              by_cases c6 : x7_1 ≤ (wrap64 (rd l0 0))
              · rw [if_pos c6] at H
                have c6b0 : decide (x7_1 ≤ (wrap64 (rd l0 0))) = true := decide_eq_true c6
                clear c6
                by_cases c7 : 0 ≤ x7_1
                · rw [if_pos c7] at H
                  have c7b0 : decide (0 ≤ x7_1) = true := decide_eq_true c7
                  clear c7
                  by_cases c8 : x7_1 < (l0.length : Int)
                  · rw [if_pos c8] at H
                    have c8b0 : decide (x7_1 < (l0.length : Int)) = true := decide_eq_true c8
                    clear c8
                    have H' := Aside0.mk H
                    clear H
                    have p140 : 0 ≤ (x7_1 : Int) := of_decide_eq_true (by first | (with_reducible assumption) | assumption)
                    have q140 : x7_1 < (l0.length : Int) := of_decide_eq_true (by first | (with_reducible assumption) | assumption)
                    obtain ⟨ad140, e140, hx140_0⟩ := Kd.at_int HR0.out x7_1 p140 q140
                    obtain rfl : ad139 = ad140 := (by injection e140)
                    replace hx140_0 := (HB.out.cell (World.block_lt_of_cell? w _ hx140_0)).trans hx140_0
                    replace p140 := eq_true p140
                    replace q140 := eq_true q140
                    go_wp2
                    go_roundg k1
                    case measure => have := HK1.out; omega
                    case rel => exact ⟨(wrap64 ((wrap64 (x6_1 * 256)) + (wrap64 (rd l0 x7_1)))), (wrap64 (x7_1 + 1)), (by first | rfl | (simp; done) | (simp [*]; done)), (by first | rfl | (simp; done) | (simp [*]; done)), H', ⟨by have := HK1.out; omega⟩, ⟨by repeat (first | (with_reducible first | exact HB.out | apply below_alloc | apply pw_below_drewN | apply below_drew1) | exact HB.out)⟩⟩
                  · rw [if_neg c8] at H
                    exact absurd H (by simp)
                · rw [if_neg c7] at H
                  exact absurd H (by simp)
              · rw [if_neg c6] at H
                have c6b0 : decide (x7_1 ≤ (wrap64 (rd l0 0))) = false := decide_eq_false c6
                clear c6
                replace H := Option.bind_eq_some_iff.mp H
                obtain ⟨⟨t141, t142⟩, A90, H⟩ := H
                replace H : (if t142 = 0 then (if 0 ≤ (wrap64 (1 + (wrap64 (rd l0 0)))) then (if (wrap64 (1 + (wrap64 (rd l0 0)))) ≤ (l0.length : Int) then ((scriptoriumref00_EqBytes.f k1 t141 (l0.take ((wrap64 (1 + (wrap64 (rd l0 0)))) : Int).toNat)).bind fun t146 => (if t146 = true then ((scriptoriumref00_CopyBytes.f (l0.drop ((wrap64 (1 + (wrap64 (rd l0 0)))) : Int).toNat)).bind fun t148 => (some (x6_1, t148, 0))) else (some (0, ([] : List Int), 4)))) else (none)) else (none)) else (some (0, ([] : List Int), 4))) = some (r1, r2, r3) := H
                have A9 := Aside0.mk A90
                clear A90
                by_cases c10 : t142 = 0
                · rw [if_pos c10] at H
                  have c10b0 : (t142 == 0) = true := beq_iff_eq.mpr c10
                  have c10b1 : (t142 != 0) = false := bne_eq_false_iff_eq.mpr c10
                  clear c10
                  obtain ⟨ji11, hji11⟩ : ∃ j_ : Int, (wrap64 (1 + (wrap64 (rd l0 0)))) = j_ := ⟨_, rfl⟩
                  replace H : (if 0 ≤ (ji11) then (if (ji11) ≤ (l0.length : Int) then ((scriptoriumref00_EqBytes.f k1 t141 (l0.take ((ji11) : Int).toNat)).bind fun t146 => (if t146 = true then ((scriptoriumref00_CopyBytes.f (l0.drop ((ji11) : Int).toNat)).bind fun t148 => (some (x6_1, t148, 0))) else (some (0, ([] : List Int), 4)))) else (none)) else (none)) = some (r1, r2, r3) := by first | (rw [hji11] at H; exact H) | (simp only [hji11] at H ⊢; exact H)
                  (try rw [hji11] at c5b0)
                  (try rw [hji11] at A9)
                  have hji11w : (IntKind.i64.wrap (1 + (wrap64 (rd l0 0)))) = ji11 := (i64_w _).trans hji11
                  by_cases c12 : 0 ≤ (ji11)
                  · rw [if_pos c12] at H
                    have c12b0 := eq_true c12
                    have c12b1 : decide (0 ≤ (ji11)) = true := decide_eq_true c12
                    clear c12
                    by_cases c13 : (ji11) ≤ (l0.length : Int)
                    · rw [if_pos c13] at H
                      have c13b0 := eq_true c13
                      have c13b1 : decide ((ji11) ≤ (l0.length : Int)) = true := decide_eq_true c13
                      clear c13
                      replace H := Option.bind_eq_some_iff.mp H
                      obtain ⟨t146, A140, H⟩ := H
                      replace H : (if t146 = true then ((scriptoriumref00_CopyBytes.f (l0.drop ((ji11) : Int).toNat)).bind fun t148 => (some (x6_1, t148, 0))) else (some (0, ([] : List Int), 4))) = some (r1, r2, r3) := H
                      have A14 := Aside0.mk A140
                      clear A140
                      by_cases c15 : t146 = true
                      · subst c15
                        have H1 : ((scriptoriumref00_CopyBytes.f (l0.drop ((ji11) : Int).toNat)).bind fun t148 => (some (x6_1, t148, 0))) = some (r1, r2, r3) := by rw [if_pos rfl] at H; exact H
                        clear H
                        have H := H1
                        clear H1
                        have c16b0 := eq_true (of_decide_eq_true (by first | (with_reducible assumption) | assumption) : 0 ≤ (ji11))
                        have c17b0 := eq_true (of_decide_eq_true (by first | (with_reducible assumption) | assumption) : (ji11) ≤ (l0.length : Int))
                        replace H := Option.bind_eq_some_iff.mp H
                        obtain ⟨t148, A180, H⟩ := H
                        replace H : (some (x6_1, t148, 0)) = some (r1, r2, r3) := H
                        have A18 := Aside0.mk A180
                        clear A180
                        simp only [Option.some.injEq, Prod.mk.injEq] at H
                        obtain ⟨rfl, rfl, rfl⟩ := H
                        go_wp2_with (first | ((with_reducible refine gate_callee (f := 15) rfl ?_); refine goesL_ (some 39) rfl rfl Try.func15 (by kernel_rfl) rfl #[.int .i64 x6_1] rfl (by (try simp only [List.map_toArray, List.map_cons, List.map_nil]); first | done | rfl | (simp only [List.length_drop, List.length_take]; rfl)) ?_; (with_reducible refine (scriptoriumref01_Num.calls k1 x6_1 t141 t142 _ A9.out).mono ?_); rintro e w19 ⟨v143, rfl, ho0, hb⟩; refine ⟨_, rfl, ?_⟩; have n0_ := Aside0.mk (Kd.R_lower ho0 (below_size (by repeat (first | (with_reducible first | exact HB.out | apply below_alloc | apply pw_below_drewN | apply below_drew1) | exact HB.out)))); have n1_ := Aside0.mk (below_step (by repeat (first | (with_reducible first | exact HB.out | apply below_alloc | apply pw_below_drewN | apply below_drew1) | exact HB.out)) hb); clear HB; have HO144 := n0_; have HB := n1_; clear n0_ n1_; (try clear hb); (try clear hb2); (try clear hk); (try clear hi); (try clear ho0); obtain ⟨i020, hi020, _, hsz20, _⟩ := info_parts info5; obtain ⟨hcut20, hA20, hC20⟩ := print_take_of (P := Try.prog) (Value.int .u8) 0 22 5 .i64 Try.underlying22 hi020 hsz20 (some ad139) c0 l0 (ji11) (of_decide_eq_true (by first | (with_reducible assumption) | assumption)) (of_decide_eq_true (by first | (with_reducible assumption) | assumption)) HC0.out; have HR145 := Aside0.mk (Kd.C_of_reads (h1 := fun _ => rfl) (hA20 _ (Kd.reads_of_C HR0.out))); have HC145 := Aside0.mk hC20; clear hA20 hC20 hi020 hsz20; obtain ⟨Ao21, co21, eo21⟩ := Kd.R_slice HO144.out; subst eo21) | (go_at_call 16; refine calls_of_args (args' := #[.slice Ao21 t141.length co21, .slice (some ad139) (l0.take ((ji11) : Int).toNat).length c0]) (by first | rfl | (rw [show (l0.take ((ji11) : Int).toNat).length = (ji11).toNat from (by rw [List.length_take]; have h_ : ((ji11) : Int) ≤ (l0.length : Int) := of_decide_eq_true (by first | (with_reducible assumption) | assumption); omega)] <;> rfl) | (simp only [hji11]; rfl) | rfl | (simp [List.length_take]; done)) ?_; (with_reducible refine (scriptoriumref00_EqBytes.calls k1 _ _ t141 _ _ (l0.take ((ji11) : Int).toNat) true _ ?side1 ?side2 ?side3 ?side4 A14.out).mono ?_); (case side1 => repeat (first | exact (Kd.R_reads' HO144.out).2.2 | (with_reducible refine Kd.C_alloc ?_ _) | (with_reducible refine Kd.C_drewN ?_ _) | (with_reducible refine Kd.C_drew ?_))); (case side2 => exact (Kd.R_reads' HO144.out).2.1); (case side3 => repeat (first | exact (Kd.C_below HR145.out HB.out) | (with_reducible refine Kd.C_alloc ?_ _) | (with_reducible refine Kd.C_drewN ?_ _) | (with_reducible refine Kd.C_drew ?_))); (case side4 => exact HC145.out); rintro e w' ⟨rfl, ⟨nd, rfl⟩⟩; obtain ⟨i022, hi022, _, hsz22, _⟩ := info_parts info5; obtain ⟨A22, hcut22, hA22, hC22⟩ := print_drop_of (P := Try.prog) (Value.int .u8) 0 22 5 .i64 Try.underlying22 hi022 hsz22 (some ad139) c0 l0 (ji11) (of_decide_eq_true (by first | (with_reducible assumption) | assumption)) (of_decide_eq_true (by first | (with_reducible assumption) | assumption)) HC0.out; have HR147 := Aside0.mk (Kd.C_of_reads (h1 := fun _ => rfl) (hA22 _ (Kd.reads_of_C HR0.out))); have HC147 := Aside0.mk hC22; clear hA22 hC22 hi022 hsz22) | ((with_reducible refine gate_callee (f := 18) rfl ?_); refine goesL_ (some 58) rfl rfl Try.func18 (by kernel_rfl) rfl #[.slice A22 (l0.drop ((ji11) : Int).toNat).length (c0 - (ji11).toNat)] rfl (by (try simp only [List.map_toArray, List.map_cons, List.map_nil]); first | done | (rw [show (l0.drop ((ji11) : Int).toNat).length = (l0.length - (ji11).toNat) from List.length_drop] <;> rfl) | (simp only [hji11]; rfl) | rfl | (simp only [List.length_drop, List.length_take]; rfl)) ?_; (with_reducible refine (scriptoriumref00_CopyBytes.calls _ _ (l0.drop ((ji11) : Int).toNat) t148 _ ?side1 ?side2 A18.out).mono ?_); (case side1 => repeat (first | exact (Kd.C_below HR147.out (by repeat (first | (with_reducible first | exact HB.out | apply below_alloc | apply pw_below_drewN | apply below_drew1) | exact HB.out))) | (with_reducible refine Kd.C_alloc ?_ _) | (with_reducible refine Kd.C_drewN ?_ _) | (with_reducible refine Kd.C_drew ?_))); (case side2 => exact HC147.out); rintro e w23 ⟨v149, rfl, ho0, hb⟩; refine ⟨_, rfl, ?_⟩; have n0_ := Aside0.mk (Kd.R_elder' (by (with_reducible repeat (first | apply Kd.R_alloc | apply Kd.R_drewN | apply Kd.R_drew)); exact HO144.out) (Kd.R_base ho0) hb); have n1_ := Aside0.mk (Kd.R_lower (Kd.R_new' ho0 (Kd.R_lt (by (with_reducible repeat (first | apply Kd.R_alloc | apply Kd.R_drewN | apply Kd.R_drew)); exact HO144.out))) (below_size (by repeat (first | (with_reducible first | exact HB.out | apply below_alloc | apply pw_below_drewN | apply below_drew1) | exact HB.out)))); have n2_ := Aside0.mk (below_step (by repeat (first | (with_reducible first | exact HB.out | apply below_alloc | apply pw_below_drewN | apply below_drew1) | exact HB.out)) hb); clear HO144; clear HB; have HO144 := n0_; have HO150 := n1_; have HB := n2_; clear n0_ n1_ n2_; (try clear hb); (try clear hb2); (try clear hk); (try clear hi); (try clear ho0)))
                        go_ret3
                        exact ⟨_, by first | rfl | (simp [errW_none, errW_some] <;> rfl) | (simp only [← hji11]; first | rfl | (simp [errW_none, errW_some] <;> rfl)) | (simp [*, errW_none, errW_some] <;> rfl), by (with_reducible repeat (first | apply Kd.R_alloc | apply Kd.R_drewN | apply Kd.R_drew)); exact Kd.R_mono HO150.out (fun _ hk => trivial), by repeat (first | (with_reducible first | exact HB.out | apply below_alloc | apply pw_below_drewN | apply below_drew1) | exact HB.out)⟩
                      · replace c15 := Bool.eq_false_iff.mpr c15
                        subst c15
                        have H1 : (some (0, ([] : List Int), 4)) = some (r1, r2, r3) := by rw [if_neg (show ¬ (false = true) by decide)] at H; exact H
                        clear H
                        have H := H1
                        clear H1
                        simp only [Option.some.injEq, Prod.mk.injEq] at H
                        obtain ⟨rfl, rfl, rfl⟩ := H
                        go_wp2_with (first | ((with_reducible refine gate_callee (f := 15) rfl ?_); refine goesL_ (some 39) rfl rfl Try.func15 (by kernel_rfl) rfl #[.int .i64 x6_1] rfl (by (try simp only [List.map_toArray, List.map_cons, List.map_nil]); first | done | rfl | (simp only [List.length_drop, List.length_take]; rfl)) ?_; (with_reducible refine (scriptoriumref01_Num.calls k1 x6_1 t141 t142 _ A9.out).mono ?_); rintro e w24 ⟨v143, rfl, ho0, hb⟩; refine ⟨_, rfl, ?_⟩; have n0_ := Aside0.mk (Kd.R_lower ho0 (below_size (by repeat (first | (with_reducible first | exact HB.out | apply below_alloc | apply pw_below_drewN | apply below_drew1) | exact HB.out)))); have n1_ := Aside0.mk (below_step (by repeat (first | (with_reducible first | exact HB.out | apply below_alloc | apply pw_below_drewN | apply below_drew1) | exact HB.out)) hb); clear HB; have HO144 := n0_; have HB := n1_; clear n0_ n1_; (try clear hb); (try clear hb2); (try clear hk); (try clear hi); (try clear ho0); obtain ⟨i025, hi025, _, hsz25, _⟩ := info_parts info5; obtain ⟨hcut25, hA25, hC25⟩ := print_take_of (P := Try.prog) (Value.int .u8) 0 22 5 .i64 Try.underlying22 hi025 hsz25 (some ad139) c0 l0 (ji11) (of_decide_eq_true (by first | (with_reducible assumption) | assumption)) (of_decide_eq_true (by first | (with_reducible assumption) | assumption)) HC0.out; have HR145 := Aside0.mk (Kd.C_of_reads (h1 := fun _ => rfl) (hA25 _ (Kd.reads_of_C HR0.out))); have HC145 := Aside0.mk hC25; clear hA25 hC25 hi025 hsz25; obtain ⟨Ao26, co26, eo26⟩ := Kd.R_slice HO144.out; subst eo26) | (go_at_call 16; refine calls_of_args (args' := #[.slice Ao26 t141.length co26, .slice (some ad139) (l0.take ((ji11) : Int).toNat).length c0]) (by first | rfl | (rw [show (l0.take ((ji11) : Int).toNat).length = (ji11).toNat from (by rw [List.length_take]; have h_ : ((ji11) : Int) ≤ (l0.length : Int) := of_decide_eq_true (by first | (with_reducible assumption) | assumption); omega)] <;> rfl) | (simp only [hji11]; rfl) | rfl | (simp [List.length_take]; done)) ?_; (with_reducible refine (scriptoriumref00_EqBytes.calls k1 _ _ t141 _ _ (l0.take ((ji11) : Int).toNat) false _ ?side1 ?side2 ?side3 ?side4 A14.out).mono ?_); (case side1 => repeat (first | exact (Kd.R_reads' HO144.out).2.2 | (with_reducible refine Kd.C_alloc ?_ _) | (with_reducible refine Kd.C_drewN ?_ _) | (with_reducible refine Kd.C_drew ?_))); (case side2 => exact (Kd.R_reads' HO144.out).2.1); (case side3 => repeat (first | exact (Kd.C_below HR145.out HB.out) | (with_reducible refine Kd.C_alloc ?_ _) | (with_reducible refine Kd.C_drewN ?_ _) | (with_reducible refine Kd.C_drew ?_))); (case side4 => exact HC145.out); rintro e w' ⟨rfl, ⟨nd, rfl⟩⟩))
                        go_ret3
                        exact ⟨_, by first | rfl | (simp [errW_none, errW_some] <;> rfl) | (simp only [← hji11]; first | rfl | (simp [errW_none, errW_some] <;> rfl)) | (simp [*, errW_none, errW_some] <;> rfl), by first | exact Kd.R_nil _ _ _ _ _ | exact Kd.N_nil _ _ _ _ _ | exact Kd.V_nil _ _ _ _ _ | exact Kd.Q_nil _ _ _ _ _ | exact Kd.S_nil _ _ _ _ _, by repeat (first | (with_reducible first | exact HB.out | apply below_alloc | apply pw_below_drewN | apply below_drew1) | exact HB.out)⟩
                    · rw [if_neg c13] at H
                      exact absurd H (by simp)
                  · rw [if_neg c12] at H
                    exact absurd H (by simp)
                · rw [if_neg c10] at H
                  have c10b0 : (t142 == 0) = false := beq_eq_false_iff_ne.mpr c10
                  have c10b1 : (t142 != 0) = true := bne_iff_ne.mpr c10
                  simp only [Option.some.injEq, Prod.mk.injEq] at H
                  obtain ⟨rfl, rfl, rfl⟩ := H
                  go_wp2_with (first | ((with_reducible refine gate_callee (f := 15) rfl ?_); refine goesL_ (some 39) rfl rfl Try.func15 (by kernel_rfl) rfl #[.int .i64 x6_1] rfl (by (try simp only [List.map_toArray, List.map_cons, List.map_nil]); first | done | rfl | (simp only [List.length_drop, List.length_take]; rfl)) ?_; (with_reducible refine (scriptoriumref01_Num.calls k1 x6_1 t141 t142 _ A9.out).mono ?_); rintro e w27 ⟨v143, rfl, ho0, hb⟩; refine ⟨_, rfl, ?_⟩; have n0_ := Aside0.mk (Kd.R_lower ho0 (below_size (by repeat (first | (with_reducible first | exact HB.out | apply below_alloc | apply pw_below_drewN | apply below_drew1) | exact HB.out)))); have n1_ := Aside0.mk (below_step (by repeat (first | (with_reducible first | exact HB.out | apply below_alloc | apply pw_below_drewN | apply below_drew1) | exact HB.out)) hb); clear HB; have HO144 := n0_; have HB := n1_; clear n0_ n1_; (try clear hb); (try clear hb2); (try clear hk); (try clear hi); (try clear ho0)))
                  go_ret3
                  exact ⟨_, by first | rfl | (simp [errW_none, errW_some] <;> rfl) | (simp [*, errW_none, errW_some] <;> rfl), by first | exact Kd.R_nil _ _ _ _ _ | exact Kd.N_nil _ _ _ _ _ | exact Kd.V_nil _ _ _ _ _ | exact Kd.Q_nil _ _ _ _ _ | exact Kd.S_nil _ _ _ _ _, by repeat (first | (with_reducible first | exact HB.out | apply below_alloc | apply pw_below_drewN | apply below_drew1) | exact HB.out)⟩
    · rw [if_neg c3] at H
      exact absurd H (by simp)

/-! ### scriptoriumref01_TakeStr: function 22 (a leaf, by hand) -/
def scriptoriumref01_TakeStr.f (k : Nat) (l0 : List Int) (a1 : Int) : Option (ByteArray × List Int × Int) := if a1 < 0 then (some ((⟨#[]⟩ : ByteArray), ([] : List Int), 2)) else ((scriptoriumref01_TakeNum.f k l0).bind fun bt151 => (if bt151.2.2 = 0 then (if bt151.1 > a1 then (some ((⟨#[]⟩ : ByteArray), ([] : List Int), 5)) else (if bt151.1 > (bt151.2.1.length : Int) then (some ((⟨#[]⟩ : ByteArray), ([] : List Int), 3)) else (if 0 ≤ bt151.1 then (if bt151.1 ≤ (bt151.2.1.length : Int) then ((scriptoriumref00_CopyBytes.f (bt151.2.1.drop (bt151.1 : Int).toNat)).bind fun t164 => (some (strOfNums (bt151.2.1.take (bt151.1 : Int).toNat), t164, 0))) else (none)) else (none)))) else (some ((⟨#[]⟩ : ByteArray), ([] : List Int), bt151.2.2))))
theorem scriptoriumref01_TakeStr.mono : ∀ a0 a1 k, LeO (scriptoriumref01_TakeStr.f k a0 a1) (scriptoriumref01_TakeStr.f (k + 1) a0 a1) := by
  intro a0 a1 k
  unfold scriptoriumref01_TakeStr.f
  repeat' first
      | (with_reducible exact scriptoriumref01_TakeNum.mono _ _)
      | (with_reducible exact LeO.refl _)
      | (with_reducible exact LeO.none _)
      | (with_reducible refine LeO.ite ?_ ?_)
      | (with_reducible refine LeO.bind ?_ (fun _ => ?_))
      | exact scriptoriumref01_TakeNum.mono _ _
      | exact LeO.none _
      | refine LeO.ite ?_ ?_
      | refine LeO.bind ?_ (fun _ => ?_)
set_option maxHeartbeats 8000000 in
set_option maxRecDepth 100000 in
theorem scriptoriumref01_TakeStr.calls (k : Nat) (A0 : Option Addr) (c0 : Nat) (l0 : List Int) (a1 : Int) (r1 : ByteArray) (r2 : List Int) (r3 : Int) (w : World) (hr0 : Kd.C (Kd.int .u8) w A0 l0.length l0) (hc0 : l0.length ≤ c0) (h : scriptoriumref01_TakeStr.f k l0 a1 = some (r1, r2, r3)) :
    Calls Try.prog 22 #[.slice A0 l0.length c0, .int .i64 a1] w fun e w' => ∃ v1_ : Value, e = .returned (.tuple #[.string r1, v1_, .int .i64 r3]) ∧ Kd.R (Kd.int .u8) 5 w' w.heap.size (fun _ => True) v1_ r2 ∧ Below w.heap.size w w' := by
  unfold scriptoriumref01_TakeStr.f at h
  have HR0 := Aside0.mk hr0
  have HC0 := Aside0.mk hc0
  clear hr0 hc0
  by_cases h1 : a1 < 0
  · rw [if_pos h1] at h
    have hq := Option.some.inj h
    clear h
    injection hq with q1 hq
    injection hq with q2 q3
    subst q1 q2 q3
    go_enter Try.func22, Try.ntmps22
    go_wp2
    go_ret3
    exact ⟨_, rfl, Kd.R_nil _ _ _ _ _, Below.refl _ _⟩
  rw [if_neg h1] at h
  obtain ⟨⟨n, rest, er⟩, hqt, h⟩ := Option.bind_eq_some_iff.1 h
  dsimp only at h
  have HQT := Aside0.mk hqt
  clear hqt
  by_cases h2 : er = 0
  · rw [if_pos h2] at h
    subst h2
    by_cases h3 : n > a1
    · rw [if_pos h3] at h
      have hq := Option.some.inj h
      clear h
      injection hq with q1 hq
      injection hq with q2 q3
      subst q1 q2 q3
      go_enter Try.func22, Try.ntmps22
      go_wp2_with fail
      refine (scriptoriumref01_TakeNum.calls k A0 c0 l0 _ _ _ _ HR0.out HC0.out HQT.out).mono ?_
      rintro e w1 ⟨v1, rfl, ho, hd⟩
      have HB1 := Aside0.mk hd
      clear ho hd
      go_wp2
      go_ret3
      exact ⟨_, rfl, Kd.R_nil _ _ _ _ _, HB1.out⟩
    rw [if_neg h3] at h
    by_cases h4 : n > (rest.length : Int)
    · rw [if_pos h4] at h
      have hq := Option.some.inj h
      clear h
      injection hq with q1 hq
      injection hq with q2 q3
      subst q1 q2 q3
      go_enter Try.func22, Try.ntmps22
      go_wp2_with fail
      refine (scriptoriumref01_TakeNum.calls k A0 c0 l0 _ _ _ _ HR0.out HC0.out HQT.out).mono ?_
      rintro e w1 ⟨v1, rfl, ho, hd⟩
      have HB1 := Aside0.mk hd
      obtain ⟨A, c, rfl⟩ := Kd.R_slice ho
      clear ho hd
      go_wp2
      go_ret3
      exact ⟨_, rfl, Kd.R_nil _ _ _ _ _, HB1.out⟩
    rw [if_neg h4] at h
    by_cases h5 : 0 ≤ n
    · rw [if_pos h5] at h
      rw [if_pos (show n ≤ (rest.length : Int) by omega)] at h
      obtain ⟨t, ht, h⟩ := Option.bind_eq_some_iff.1 h
      have hq := Option.some.inj h
      clear h
      injection hq with q1 hq
      injection hq with q2 q3
      subst q2 q3
      have HCL := Aside0.mk ht
      have Q1 := Aside0.mk q1
      clear q1 ht
      go_enter Try.func22, Try.ntmps22
      go_wp2_with fail
      refine (scriptoriumref01_TakeNum.calls k A0 c0 l0 _ _ _ _ HR0.out HC0.out HQT.out).mono ?_
      rintro e w1 ⟨v1, rfl, ho, hd⟩
      obtain ⟨A, c, rfl⟩ := Kd.R_slice ho
      have hC := (Kd.R_reads' ho).2.2
      have hcl := (Kd.R_reads' ho).2.1
      have HB1 := Aside0.mk hd
      clear ho hd
      obtain ⟨i01, hi01, _, hsz1, _⟩ := info_parts info5
      obtain ⟨hcut1, hA1, hC1⟩ := print_take_of (P := Try.prog) (Value.int .u8) 0 22 5 .i64 Try.underlying22 hi01 hsz1 A c rest n h5 (by omega) hcl
      obtain ⟨y, hy⟩ : ∃ y, y = rest.take n.toNat := ⟨_, rfl⟩
      rw [← hy] at hcut1 hA1 hC1
      obtain ⟨z, hz⟩ : ∃ z, z = rest.drop n.toNat := ⟨_, rfl⟩
      obtain ⟨A2, hcut2, hA2, hC2⟩ := print_drop_of (P := Try.prog) (Value.int .u8) 0 22 5 .i64 Try.underlying22 hi01 hsz1 A c rest n h5 (by omega) hcl
      rw [← hz] at hcut2 hA2 hC2 HCL
      have HR1 : Aside0 (Kd.C (Kd.int .u8) w1 A y.length y) := ⟨Kd.C_of_reads (h1 := fun _ => rfl) (hA1 w1 (Kd.reads_of_C hC))⟩
      have HR2 : Aside0 (Kd.C (Kd.int .u8) w1 A2 z.length z) := ⟨Kd.C_of_reads (h1 := fun _ => rfl) (hA2 w1 (Kd.reads_of_C hC))⟩
      have HC2 := Aside0.mk hC2
      have hcv := fun (W : World) (hb : Below w1.heap.size w1 W) => Kd.C_string (P := Try.prog) (c := c) Try.underlying22 Try.underlying5 Try.underlying9 (Kd.C_below HR1.out hb)
      rw [hy, Q1.out, ← hy] at hcv
      clear hy hz
      have HCV := Aside0.mk hcv
      clear hcv hC hcl hA1 hA2 hC1 hC2 hi01 hsz1
      go_wp2_with fail
      have hcv1 := HCV.out w1.drew (below_drew (Below.refl _ _))
      go_region_with (go_at_call 18; refine (scriptoriumref00_CopyBytes.calls A2 _ z t _ ?s1 ?s2 HCL.out).mono ?_; (case s1 => exact Kd.C_drew HR2.out); (case s2 => exact HC2.out); rintro e w2 ⟨v2, rfl, ho, hb⟩; have hcv2 := HCV.out w2 (below_step (below_drew (Below.refl _ _)) hb); have HO := Aside0.mk (Kd.R_lower ho (below_size (below_drew HB1.out))); have HB := Aside0.mk (below_step (below_drew HB1.out) hb); clear ho hb)
      all_goals
        go_wp2
        go_ret3
        exact ⟨_, rfl, (by assumption : Aside0 (Kd.R _ _ _ _ _ _ _)).out, (by assumption : Aside0 (Below w.heap.size w _)).out⟩
    · rw [if_neg h5] at h
      exact absurd h (by simp)
  rw [if_neg h2] at h
  have hq := Option.some.inj h
  clear h
  injection hq with q1 hq
  injection hq with q2 q3
  subst q1 q2 q3
  have h2b : (er != 0) = true := bne_iff_ne.2 h2
  clear h2
  go_enter Try.func22, Try.ntmps22
  go_wp2_with fail
  refine (scriptoriumref01_TakeNum.calls k A0 c0 l0 _ _ _ _ HR0.out HC0.out HQT.out).mono ?_
  rintro e w1 ⟨v1, rfl, ho, hd⟩
  have HB1 := Aside0.mk hd
  clear ho hd
  go_wp2
  go_ret3
  exact ⟨_, rfl, Kd.R_nil _ _ _ _ _, HB1.out⟩

end Go.Proofs.Ytclbcmblgbinpaa.PQuillTakes
