/- Written by xprint.py, a program of these sessions (over the print of the kit, with leaves typed by hand): one Lean function for each Go function, and the proof that the Go code comes to its answers. -/
import Derived.Test.YtkboplflbokofaaPFrameStopsx0
import Derived.Test.YtkboplflbokofaaPFrameStopsx1
import Derived.Test.YtkboplflbokofaaPFrameStopsx2
import Derived.Test.YtkboplflbokofaaPFrameStopsx3
import Derived.Test.YtkboplflbokofaaPFrameStopsx4
namespace Go.Proofs.Ytkboplflbokofaa.PFrameStops
open Go.RowKit Go.Proofs.YtkboplflbokofaaW.PrintWords Go.Proofs.YtkboplflbokofaaW.PrintLast Go.Proofs.YtkboplflbokofaaW.PrintMore
attribute [local go_sem] max2_int min2_int max_two min_two max_three min_three max_four min_four   -- for this text's walks alone
set_option linter.unusedVariables false
set_option linter.unusedSimpArgs false

/-! ### scriptoriumref00_Bring: function 17 -/
def scriptoriumref00_Bring.f (a0 : Int) (a1 : Int) : Option (Int) := if a1 ≤ 0 then (some 0) else (if a1 = 0 then (none) else (if (Int.tmod a0 a1) < 0 then (some (wrap64 ((Int.tmod a0 a1) + a1))) else (some (Int.tmod a0 a1))))
set_option maxHeartbeats 8000000 in
set_option maxRecDepth 100000 in
theorem scriptoriumref00_Bring.calls (a0 : Int) (a1 : Int) (r : Int) (w : World) (h : scriptoriumref00_Bring.f a0 a1 = some r) :
    Calls Try.prog 17 #[.int .i64 a0, .int .i64 a1] w fun e w' => e = .returned (.int .i64 r) ∧ Drawn0 w w' := by
  have H : (if a1 ≤ 0 then (some 0) else (if a1 = 0 then (none) else (if (Int.tmod a0 a1) < 0 then (some (wrap64 ((Int.tmod a0 a1) + a1))) else (some (Int.tmod a0 a1))))) = some r := h
  clear h
  by_cases c3 : a1 ≤ 0
  · rw [if_pos c3] at H
    have c3b0 : decide (a1 ≤ 0) = true := decide_eq_true c3
    clear c3
    obtain rfl := Option.some.inj H
    go_enter Try.func17, Try.ntmps17
    go_wp2
    go_ret
    exact ⟨by first | rfl | (simp; done) | (simp [*]; done), by repeat (first | exact Drawn0.refl _ | apply Drawn0.step)⟩
  · rw [if_neg c3] at H
    have c3b0 : decide (a1 ≤ 0) = false := decide_eq_false c3
    clear c3
    by_cases c4 : a1 = 0
    · rw [if_pos c4] at H
      exact absurd H (by simp)
    · rw [if_neg c4] at H
      have c4b0 : (a1 == 0) = false := beq_eq_false_iff_ne.mpr c4
      have c4b1 : (a1 != 0) = true := bne_iff_ne.mpr c4
      by_cases c5 : (Int.tmod a0 a1) < 0
      · rw [if_pos c5] at H
        have c5b0 : decide ((Int.tmod a0 a1) < 0) = true := decide_eq_true c5
        clear c5
        obtain rfl := Option.some.inj H
        go_enter Try.func17, Try.ntmps17
        go_wp2
        go_ret
        exact ⟨by first | rfl | (simp; done) | (simp [*]; done), by repeat (first | exact Drawn0.refl _ | apply Drawn0.step)⟩
      · rw [if_neg c5] at H
        have c5b0 : decide ((Int.tmod a0 a1) < 0) = false := decide_eq_false c5
        clear c5
        obtain rfl := Option.some.inj H
        go_enter Try.func17, Try.ntmps17
        go_wp2
        go_ret
        exact ⟨by first | rfl | (simp; done) | (simp [*]; done), by repeat (first | exact Drawn0.refl _ | apply Drawn0.step)⟩

-- NOT PRINTED: function 20 (frame_All)

/-! ### scriptoriumlaw04_put: function 23 -/
mutual
def scriptoriumlaw04_put.l0 : Nat → List (List Int) → List Int → List (List Int) → List Int → Int → Option (List Int × (List (List Int)) × List Int × Bool)
  | 0, _, _, _, _, _ => none
  | k + 1, x0, x6, x7, x8, x9 => if x9 < (x0.length : Int) then (scriptoriumlaw04_put.j1 k x0 x6 x7 x8 x9 (decide (x9 < 20))) else (scriptoriumlaw04_put.j1 k x0 x6 x7 x8 x9 false)
def scriptoriumlaw04_put.j1 : Nat → List (List Int) → List Int → List (List Int) → List Int → Int → Bool → Option (List Int × (List (List Int)) × List Int × Bool)
  | 0, _, _, _, _, _, _ => none
  | k + 1, x0, x6, x7, x8, x9, x20 => if x20 = true then (if 0 ≤ x9 then (if x9 < (x0.length : Int) then (if 0 ≤ (mn ((rd_L1 x0 x9).length : Int) 1000) then (if (mn ((rd_L1 x0 x9).length : Int) 1000) ≤ ((rd_L1 x0 x9).length : Int) then ((some ((rd_L1 x0 x9).take ((mn ((rd_L1 x0 x9).length : Int) 1000) : Int).toNat : List Int)).bind fun y227 => ((frame_Frame.f k y227).bind fun bt232 => (if bt232.2 = 0 then (if x6.length + bt232.1.length < 140737488355328 then ((some (x6 ++ bt232.1 : List Int)).bind fun y236 => (if x7.length < 5864062014805 then (if x8.length < 17592186044416 then (scriptoriumlaw04_put.l0 k x0 y236 (x7 ++ [y227]) (x8 ++ [(y236.length : Int)]) (wrap64 (x9 + 1))) else (none)) else (none))) else (none)) else (some (([] : List Int), ([] : List (List Int)), ([] : List Int), false))))) else (none)) else (none)) else (none)) else (none)) else (some (x6, x7, x8, true))
end
def scriptoriumlaw04_put.f (k : Nat) (l0 : List (List Int)) : Option (List Int × (List (List Int)) × List Int × Bool) := scriptoriumlaw04_put.l0 k l0 ([] : List Int) ([] : List (List Int)) ([] : List Int) 0
theorem scriptoriumlaw04_put.mono_l : ∀ k, (∀ y0 y1 y2 y3 y4, LeO (scriptoriumlaw04_put.l0 k y0 y1 y2 y3 y4) (scriptoriumlaw04_put.l0 (k + 1) y0 y1 y2 y3 y4)) ∧ (∀ y0 y1 y2 y3 y4 y5, LeO (scriptoriumlaw04_put.j1 k y0 y1 y2 y3 y4 y5) (scriptoriumlaw04_put.j1 (k + 1) y0 y1 y2 y3 y4 y5))
  | 0 => ⟨fun _ _ _ _ _ r h => by simp [scriptoriumlaw04_put.l0] at h, fun _ _ _ _ _ _ r h => by simp [scriptoriumlaw04_put.j1] at h⟩
  | k + 1 => by
    obtain ⟨ih0, ih1⟩ := scriptoriumlaw04_put.mono_l k
    refine ⟨?_, ?_⟩
    · intro y0 y1 y2 y3 y4
      unfold scriptoriumlaw04_put.l0
      repeat' first
      | (with_reducible exact ih0 _ _ _ _ _)
      | (with_reducible exact ih1 _ _ _ _ _ _)
      | (with_reducible exact frame_Frame.mono _ _)
      | (with_reducible exact LeO.refl _)
      | (with_reducible exact LeO.none _)
      | (with_reducible refine LeO.ite ?_ ?_)
      | (with_reducible refine LeO.bind ?_ (fun _ => ?_))
      | exact ih0 _ _ _ _ _
      | exact ih1 _ _ _ _ _ _
      | exact frame_Frame.mono _ _
      | exact LeO.none _
      | refine LeO.ite ?_ ?_
      | refine LeO.bind ?_ (fun _ => ?_)
    · intro y0 y1 y2 y3 y4 y5
      unfold scriptoriumlaw04_put.j1
      repeat' first
      | (with_reducible exact ih0 _ _ _ _ _)
      | (with_reducible exact ih1 _ _ _ _ _ _)
      | (with_reducible exact frame_Frame.mono _ _)
      | (with_reducible exact LeO.refl _)
      | (with_reducible exact LeO.none _)
      | (with_reducible refine LeO.ite ?_ ?_)
      | (with_reducible refine LeO.bind ?_ (fun _ => ?_))
      | exact ih0 _ _ _ _ _
      | exact ih1 _ _ _ _ _ _
      | exact frame_Frame.mono _ _
      | exact LeO.none _
      | refine LeO.ite ?_ ?_
      | refine LeO.bind ?_ (fun _ => ?_)
theorem scriptoriumlaw04_put.mono : ∀ a0 k, LeO (scriptoriumlaw04_put.f k a0) (scriptoriumlaw04_put.f (k + 1) a0) := by
  intro a0 k
  obtain ⟨ih0, ih1⟩ := scriptoriumlaw04_put.mono_l k
  unfold scriptoriumlaw04_put.f
  repeat' first
      | (with_reducible exact ih0 _ _ _ _ _)
      | (with_reducible exact ih1 _ _ _ _ _ _)
      | (with_reducible exact frame_Frame.mono _ _)
      | (with_reducible exact LeO.refl _)
      | (with_reducible exact LeO.none _)
      | (with_reducible refine LeO.ite ?_ ?_)
      | (with_reducible refine LeO.bind ?_ (fun _ => ?_))
      | exact ih0 _ _ _ _ _
      | exact ih1 _ _ _ _ _ _
      | exact frame_Frame.mono _ _
      | exact LeO.none _
      | refine LeO.ite ?_ ?_
      | refine LeO.bind ?_ (fun _ => ?_)
set_option maxHeartbeats 8000000 in
set_option maxRecDepth 100000 in
theorem scriptoriumlaw04_put.calls (k : Nat) (P0_ : Nat → Prop) (A0 : Option Addr) (c0 : Nat) (l0 : List (List Int)) (r1 : List Int) (r2 : List (List Int)) (r3 : List Int) (r4 : Bool) (w : World) (hs0 : Kd.V (Kd.slice 5 (Kd.int .u8)) 22 w w.heap.size (fun k_ => P0_ k_) (.slice A0 l0.length c0) l0) (h : scriptoriumlaw04_put.f k l0 = some (r1, r2, r3, r4)) :
    Calls Try.prog 23 #[.slice A0 l0.length c0] w fun e w' => ∃ v0_ v1_ v2_ : Value, e = .returned (.tuple #[v0_, v1_, v2_, .bool r4]) ∧ Kd.R (Kd.int .u8) 5 w' w.heap.size (fun k_ => (w.heap.size ≤ k_)) v0_ r1 ∧ Kd.N (Kd.slice 5 (Kd.int .u8)) 22 w' w.heap.size (fun k_ => (P0_ k_ ∨ w.heap.size ≤ k_) ∧ some k_ ≠ (v0_ : Value).ownBlock ∧ some k_ ≠ (v2_ : Value).ownBlock) v1_ r2 ∧ Kd.R (Kd.int .i64) 3 w' w.heap.size (fun k_ => (w.heap.size ≤ k_)) v2_ r3 ∧ Below w.heap.size w w' := by
  have HO0 := Aside0.mk (show Kd.V (Kd.slice 5 (Kd.int .u8)) 22 w w.heap.size (fun k_ => (P0_ k_ ∨ w.heap.size ≤ k_)) (.slice A0 l0.length c0) l0 from Kd.V_mono hs0 (fun k_ hk => .inl hk))
  have HB := Aside0.mk (Below.refl w.heap.size w)
  have H : (scriptoriumlaw04_put.l0 k l0 ([] : List Int) ([] : List (List Int)) ([] : List Int) 0) = some (r1, r2, r3, r4) := h
  clear h
  have H' := Aside0.mk H
  clear H
  go_enter Try.func23, Try.ntmps23
  go_wp2
  repeat (go_quiet (fail); try go_wp2)
  go_loopg [6, 7, 8, 9] k (fun kq v6 v7 v8 v9 w' => ∃ (x6_1 : List Int) (x7_1 : List (List Int)) (x8_1 : List Int) (x9_1 : Int), v9 = .int .i64 x9_1 ∧ Aside0 (scriptoriumlaw04_put.l0 kq l0 x6_1 x7_1 x8_1 x9_1 = some (r1, r2, r3, r4)) ∧ Aside0 (kq ≤ k) ∧ Aside0 (Kd.V (Kd.slice 5 (Kd.int .u8)) 22 w' w.heap.size (fun k_ => (P0_ k_ ∨ w.heap.size ≤ k_) ∧ some k_ ≠ (v6 : Value).ownBlock ∧ some k_ ≠ (v7 : Value).ownBlock ∧ some k_ ≠ (v8 : Value).ownBlock) (.slice A0 l0.length c0) l0) ∧ Aside0 (Kd.R (Kd.int .u8) 5 w' w.heap.size (fun k_ => (w.heap.size ≤ k_)) v6 x6_1) ∧ Aside0 (Kd.N (Kd.slice 5 (Kd.int .u8)) 22 w' w.heap.size (fun k_ => (P0_ k_ ∨ w.heap.size ≤ k_) ∧ some k_ ≠ (v6 : Value).ownBlock ∧ some k_ ≠ (v8 : Value).ownBlock) v7 x7_1) ∧ Aside0 (Kd.R (Kd.int .i64) 3 w' w.heap.size (fun k_ => (w.heap.size ≤ k_)) v8 x8_1) ∧ Aside0 (Below w.heap.size w w'))
  case atStart => exact ⟨(([] : List Int)), (([] : List (List Int))), (([] : List Int)), (0), (by first | rfl | (simp; done) | (simp [*]; done)), H', ⟨Nat.le_refl _⟩, ⟨by (with_reducible repeat (first | apply Kd.V_alloc | apply Kd.V_drewN | apply Kd.V_drew)); exact Kd.V_mono HO0.out (fun _ hk => ⟨hk, ⟨(by simp [Value.ownBlock]), ⟨(by simp [Value.ownBlock]), (by simp [Value.ownBlock])⟩⟩⟩)⟩, ⟨by first | exact Kd.R_nil _ _ _ _ _ | exact Kd.N_nil _ _ _ _ _ | exact Kd.V_nil _ _ _ _ _ | exact Kd.Q_nil _ _ _ _ _ | exact Kd.S_nil _ _ _ _ _⟩, ⟨by first | exact Kd.S_nil _ _ _ _ _ | exact Kd.N_nil _ _ _ _ _ | exact Kd.V_nil _ _ _ _ _ | exact Kd.Q_nil _ _ _ _ _ | exact Kd.R_nil _ _ _ _ _⟩, ⟨by first | exact Kd.R_nil _ _ _ _ _ | exact Kd.N_nil _ _ _ _ _ | exact Kd.V_nil _ _ _ _ _ | exact Kd.Q_nil _ _ _ _ _ | exact Kd.S_nil _ _ _ _ _⟩, ⟨by repeat (first | (with_reducible first | exact HB.out | apply below_alloc | apply pw_below_drewN | apply below_drew1) | exact HB.out)⟩⟩
  case round =>
    clear H'
    obtain ⟨x6_1, x7_1, x8_1, x9_1, rfl, HA, HK1, HO_0, HO_6, HO_7, HO_8, HB⟩ := hrel
    cases gk with
    | zero => exact absurd HA.out (by simp [scriptoriumlaw04_put.l0])
    | succ k1 =>
      have H := HA.out
      clear HA
      simp only [scriptoriumlaw04_put.l0] at H
      have HC2 := Aside0.mk H
      clear H
      go_upto_region 5 with (fail)
      repeat (go_quiet (fail); go_upto_region 5 with (fail))
      go_cut [20] (fun v20 wc => ∃ (kq : Nat) (x20_1 : Bool), v20 = .bool x20_1 ∧ Aside0 (scriptoriumlaw04_put.j1 kq l0 x6_1 x7_1 x8_1 x9_1 x20_1 = some (r1, r2, r3, r4)) ∧ Aside0 (kq ≤ k1) ∧ Aside0 (Kd.V (Kd.slice 5 (Kd.int .u8)) 22 wc w.heap.size (fun k_ => (P0_ k_ ∨ w.heap.size ≤ k_) ∧ some k_ ≠ (u6 : Value).ownBlock ∧ some k_ ≠ (u7 : Value).ownBlock ∧ some k_ ≠ (u8 : Value).ownBlock) (.slice A0 l0.length c0) l0) ∧ Aside0 (Kd.R (Kd.int .u8) 5 wc w.heap.size (fun k_ => (w.heap.size ≤ k_)) u6 x6_1) ∧ Aside0 (Kd.N (Kd.slice 5 (Kd.int .u8)) 22 wc w.heap.size (fun k_ => (P0_ k_ ∨ w.heap.size ≤ k_) ∧ some k_ ≠ (u6 : Value).ownBlock ∧ some k_ ≠ (u8 : Value).ownBlock) u7 x7_1) ∧ Aside0 (Kd.R (Kd.int .i64) 3 wc w.heap.size (fun k_ => (w.heap.size ≤ k_)) u8 x8_1) ∧ Aside0 (Below w.heap.size w wc))
      case first =>
        have H := HC2.out
        clear HC2
        by_cases c3 : x9_1 < (l0.length : Int)
        · rw [if_pos c3] at H
          have c3b0 : decide (x9_1 < (l0.length : Int)) = true := decide_eq_true c3
          clear c3
          (first | rw [c3b0] | (simp only [i64_w, i32_w]; rw [c3b0]) | skip)
          have H' := Aside0.mk H
          clear H
          go_wp2
          repeat (go_quiet (fail); try go_wp2)
          go_meet
          case rel => exact ⟨_, (decide (x9_1 < 20)), (by first | rfl | (simp; done) | (simp [*]; done)), H', ⟨by have := HK1.out; first | omega | exact Nat.le_refl _⟩, ⟨by (with_reducible repeat (first | apply Kd.V_alloc | apply Kd.V_drewN | apply Kd.V_drew)); exact HO_0.out⟩, ⟨by (with_reducible repeat (first | apply Kd.R_alloc | apply Kd.R_drewN | apply Kd.R_drew)); exact HO_6.out⟩, ⟨by (with_reducible repeat (first | apply Kd.N_alloc | apply Kd.N_drewN | apply Kd.N_drew)); exact HO_7.out⟩, ⟨by (with_reducible repeat (first | apply Kd.R_alloc | apply Kd.R_drewN | apply Kd.R_drew)); exact HO_8.out⟩, ⟨by repeat (first | (with_reducible first | exact HB.out | apply below_alloc | apply pw_below_drewN | apply below_drew1) | exact HB.out)⟩⟩
        · rw [if_neg c3] at H
          have c3b0 : decide (x9_1 < (l0.length : Int)) = false := decide_eq_false c3
          clear c3
          (first | rw [c3b0] | (simp only [i64_w, i32_w]; rw [c3b0]) | skip)
          have H' := Aside0.mk H
          clear H
          go_wp2
          repeat (go_quiet (fail); try go_wp2)
          go_meet
          case rel => exact ⟨_, (false), (by first | rfl | (simp; done) | (simp [*]; done)), H', ⟨by have := HK1.out; first | omega | exact Nat.le_refl _⟩, ⟨by (with_reducible repeat (first | apply Kd.V_alloc | apply Kd.V_drewN | apply Kd.V_drew)); exact HO_0.out⟩, ⟨by (with_reducible repeat (first | apply Kd.R_alloc | apply Kd.R_drewN | apply Kd.R_drew)); exact HO_6.out⟩, ⟨by (with_reducible repeat (first | apply Kd.N_alloc | apply Kd.N_drewN | apply Kd.N_drew)); exact HO_7.out⟩, ⟨by (with_reducible repeat (first | apply Kd.R_alloc | apply Kd.R_drewN | apply Kd.R_drew)); exact HO_8.out⟩, ⟨by repeat (first | (with_reducible first | exact HB.out | apply below_alloc | apply pw_below_drewN | apply below_drew1) | exact HB.out)⟩⟩
      case rest =>
        clear HC2
        try clear c2
        try clear p2
        try clear c3
        try clear c3b0
        obtain ⟨kq, x20_1, rfl, HA, HJ1, HO_0, HO_6, HO_7, HO_8, HB⟩ := hcut
        cases kq with
        | zero => exact absurd HA.out (by simp [scriptoriumlaw04_put.j1])
        | succ kj1 =>
          have H := HA.out
          clear HA
          simp only [scriptoriumlaw04_put.j1] at H
          by_cases c4 : x20_1 = true
          · subst c4
            have H1 : (if 0 ≤ x9_1 then (if x9_1 < (l0.length : Int) then (if 0 ≤ (mn ((rd_L1 l0 x9_1).length : Int) 1000) then (if (mn ((rd_L1 l0 x9_1).length : Int) 1000) ≤ ((rd_L1 l0 x9_1).length : Int) then ((some ((rd_L1 l0 x9_1).take ((mn ((rd_L1 l0 x9_1).length : Int) 1000) : Int).toNat : List Int)).bind fun y227 => ((frame_Frame.f kj1 y227).bind fun bt232 => (if bt232.2 = 0 then (if x6_1.length + bt232.1.length < 140737488355328 then ((some (x6_1 ++ bt232.1 : List Int)).bind fun y236 => (if x7_1.length < 5864062014805 then (if x8_1.length < 17592186044416 then (scriptoriumlaw04_put.l0 kj1 l0 y236 (x7_1 ++ [y227]) (x8_1 ++ [(y236.length : Int)]) (wrap64 (x9_1 + 1))) else (none)) else (none))) else (none)) else (some (([] : List Int), ([] : List (List Int)), ([] : List Int), false))))) else (none)) else (none)) else (none)) else (none)) = some (r1, r2, r3, r4) := by rw [if_pos rfl] at H; exact H
            clear H
            have H := H1
            clear H1
            by_cases c5 : 0 ≤ x9_1
            · rw [if_pos c5] at H
              have c5b0 : decide (0 ≤ x9_1) = true := decide_eq_true c5
              clear c5
              by_cases c6 : x9_1 < (l0.length : Int)
              · rw [if_pos c6] at H
                have c6b0 : decide (x9_1 < (l0.length : Int)) = true := decide_eq_true c6
                clear c6
                obtain ⟨ji7, hji7⟩ : ∃ j_ : Int, (mn ((rd_L1 l0 x9_1).length : Int) 1000) = j_ := ⟨_, rfl⟩
                replace H : (if 0 ≤ (ji7) then (if (ji7) ≤ ((rd_L1 l0 x9_1).length : Int) then ((some ((rd_L1 l0 x9_1).take ((ji7) : Int).toNat : List Int)).bind fun y227 => ((frame_Frame.f kj1 y227).bind fun bt232 => (if bt232.2 = 0 then (if x6_1.length + bt232.1.length < 140737488355328 then ((some (x6_1 ++ bt232.1 : List Int)).bind fun y236 => (if x7_1.length < 5864062014805 then (if x8_1.length < 17592186044416 then (scriptoriumlaw04_put.l0 kj1 l0 y236 (x7_1 ++ [y227]) (x8_1 ++ [(y236.length : Int)]) (wrap64 (x9_1 + 1))) else (none)) else (none))) else (none)) else (some (([] : List Int), ([] : List (List Int)), ([] : List Int), false))))) else (none)) else (none)) = some (r1, r2, r3, r4) := by first | (rw [hji7] at H; exact H) | (simp only [hji7] at H ⊢; exact H)
                have hji7_ : (if 1000 < ((rd_L1 l0 x9_1).length : Int) then 1000 else ((rd_L1 l0 x9_1).length : Int)) = ji7 := hji7
                by_cases c8 : 0 ≤ (ji7)
                · rw [if_pos c8] at H
                  have c8b0 := eq_true c8
                  have c8b1 : decide (0 ≤ (ji7)) = true := decide_eq_true c8
                  clear c8
                  by_cases c9 : (ji7) ≤ ((rd_L1 l0 x9_1).length : Int)
                  · rw [if_pos c9] at H
                    have c9b0 := eq_true c9
                    have c9b1 : decide ((ji7) ≤ ((rd_L1 l0 x9_1).length : Int)) = true := decide_eq_true c9
                    clear c9
                    obtain ⟨y227, hy227⟩ : ∃ y_ : List Int, y_ = ((rd_L1 l0 x9_1).take ((ji7) : Int).toNat) := ⟨_, rfl⟩
                    replace H : ((frame_Frame.f kj1 y227).bind fun bt232 => (if bt232.2 = 0 then (if x6_1.length + bt232.1.length < 140737488355328 then ((some (x6_1 ++ bt232.1 : List Int)).bind fun y236 => (if x7_1.length < 5864062014805 then (if x8_1.length < 17592186044416 then (scriptoriumlaw04_put.l0 kj1 l0 y236 (x7_1 ++ [y227]) (x8_1 ++ [(y236.length : Int)]) (wrap64 (x9_1 + 1))) else (none)) else (none))) else (none)) else (some (([] : List Int), ([] : List (List Int)), ([] : List Int), false)))) = some (r1, r2, r3, r4) := by first | (rw [hy227]; with_reducible exact H) | (have H2_ := (Option.bind_some _ _).symm.trans H; rw [hy227]; with_reducible exact H2_) | (have H2_ := (Option.bind_some _ _).symm.trans H; with_reducible exact H2_) | with_reducible exact H | (rw [hy227]; exact H) | exact H
                    have Ny227 := Aside0.mk hy227
                    clear hy227
                    replace H := Option.bind_eq_some_iff.mp H
                    obtain ⟨⟨t232, t235⟩, A100, H⟩ := H
                    replace H : (if t235 = 0 then (if x6_1.length + t232.length < 140737488355328 then ((some (x6_1 ++ t232 : List Int)).bind fun y236 => (if x7_1.length < 5864062014805 then (if x8_1.length < 17592186044416 then (scriptoriumlaw04_put.l0 kj1 l0 y236 (x7_1 ++ [y227]) (x8_1 ++ [(y236.length : Int)]) (wrap64 (x9_1 + 1))) else (none)) else (none))) else (none)) else (some (([] : List Int), ([] : List (List Int)), ([] : List Int), false))) = some (r1, r2, r3, r4) := H
                    have A10 := Aside0.mk A100
                    clear A100
                    by_cases c11 : t235 = 0
                    · rw [if_pos c11] at H
                      have c11b0 : (t235 == 0) = true := beq_iff_eq.mpr c11
                      have c11b1 : (t235 != 0) = false := bne_eq_false_iff_eq.mpr c11
                      clear c11
                      by_cases c12 : x6_1.length + t232.length < 140737488355328
                      · rw [if_pos c12] at H
                        have LMc12 := Aside0.mk c12
                        clear c12
                        obtain ⟨y236, hy236⟩ : ∃ y_ : List Int, y_ = (x6_1 ++ t232) := ⟨_, rfl⟩
                        replace H : (if x7_1.length < 5864062014805 then (if x8_1.length < 17592186044416 then (scriptoriumlaw04_put.l0 kj1 l0 y236 (x7_1 ++ [y227]) (x8_1 ++ [(y236.length : Int)]) (wrap64 (x9_1 + 1))) else (none)) else (none)) = some (r1, r2, r3, r4) := by first | (rw [hy236]; with_reducible exact H) | (have H2_ := (Option.bind_some _ _).symm.trans H; rw [hy236]; with_reducible exact H2_) | (have H2_ := (Option.bind_some _ _).symm.trans H; with_reducible exact H2_) | with_reducible exact H | (rw [hy236]; exact H) | exact H
                        have Ny236 := Aside0.mk hy236
                        clear hy236
                        by_cases c13 : x7_1.length < 5864062014805
                        · rw [if_pos c13] at H
                          have LMc13 := Aside0.mk c13
                          clear c13
                          obtain ⟨y239, hy239⟩ : ∃ y_ : List (List Int), y_ = (x7_1 ++ [y227]) := ⟨_, rfl⟩
                          replace H : (if x8_1.length < 17592186044416 then (scriptoriumlaw04_put.l0 kj1 l0 y236 y239 (x8_1 ++ [(y236.length : Int)]) (wrap64 (x9_1 + 1))) else (none)) = some (r1, r2, r3, r4) := by first | (rw [hy239]; with_reducible exact H) | (have H2_ := (Option.bind_some _ _).symm.trans H; rw [hy239]; with_reducible exact H2_) | (have H2_ := (Option.bind_some _ _).symm.trans H; with_reducible exact H2_) | with_reducible exact H | (rw [hy239]; exact H) | exact H
                          have Ny239 := Aside0.mk hy239
                          clear hy239
                          by_cases c14 : x8_1.length < 17592186044416
                          · rw [if_pos c14] at H
                            have LMc14 := Aside0.mk c14
                            clear c14
                            obtain ⟨y242, hy242⟩ : ∃ y_ : List Int, y_ = (x8_1 ++ [(y236.length : Int)]) := ⟨_, rfl⟩
                            replace H : (scriptoriumlaw04_put.l0 kj1 l0 y236 y239 y242 (wrap64 (x9_1 + 1))) = some (r1, r2, r3, r4) := by first | (rw [hy242]; with_reducible exact H) | (have H2_ := (Option.bind_some _ _).symm.trans H; rw [hy242]; with_reducible exact H2_) | (have H2_ := (Option.bind_some _ _).symm.trans H; with_reducible exact H2_) | with_reducible exact H | (rw [hy242]; exact H) | exact H
                            have Ny242 := Aside0.mk hy242
                            clear hy242
                            have H' := Aside0.mk H
                            clear H
                            have p225 : 0 ≤ (x9_1 : Int) := of_decide_eq_true (by first | (with_reducible assumption) | assumption)
                            have q225 : x9_1 < (l0.length : Int) := of_decide_eq_true (by first | (with_reducible assumption) | assumption)
                            obtain ⟨ad225, A225_0, c225_0, e225, hx225_0, hl225_0, hi225_0⟩ := at_L1 (Kd.V_reads' HO_0.out).2.2 x9_1 p225 q225
                            cases e225
                            obtain ⟨ce225, hce225, hMe225, hcc225⟩ := Kd.V_get HO_0.out [] x9_1 p225 (by first | exact q225 | exact of_decide_eq_true (by first | (with_reducible assumption) | assumption) | (have e_ := (Kd.V_reads' HO_0.out).1; omega))
                            obtain ⟨ua225_0, uc225_0, rfl, ul225_0, ge225_0⟩ := Kd.FK_slice_open hMe225
                            have hv225_0 := hcc225 0 _ rfl
                            rw [Nat.add_zero, show ((Kd.slice 5 (Kd.int .u8))).sz = 1 from rfl, Nat.mul_one] at hv225_0
                            replace hv225_0 := Option.some.inj (hv225_0.symm.trans hx225_0)
                            injection hv225_0 with hva_ hvn_ hvc_
                            rw [hva_] at ge225_0
                            rw [hvc_] at ul225_0
                            have HL225_0 := Aside0.mk (show Kd.V (Kd.int .u8) 5 _ w.heap.size _ _ (rd_L1 l0 x9_1) from Kd.V_mk ul225_0 ge225_0)
                            clear hva_ hvn_ hvc_ ge225_0 ul225_0
                            clear hcc225 hce225
                            have HR225_0 := Aside0.mk hi225_0
                            have HC225_0 := Aside0.mk hl225_0
                            clear hi225_0 hl225_0
                            replace p225 := eq_true p225
                            replace q225 := eq_true q225
                            have p226 : 0 ≤ (x9_1 : Int) := of_decide_eq_true (by first | (with_reducible assumption) | assumption)
                            have q226 : x9_1 < (l0.length : Int) := of_decide_eq_true (by first | (with_reducible assumption) | assumption)
                            obtain ⟨ad226, A226_0, c226_0, e226, hx226_0, hl226_0, hi226_0⟩ := at_L1 (Kd.V_reads' HO_0.out).2.2 x9_1 p226 q226
                            obtain rfl : ad225 = ad226 := (by injection e226)
                            obtain ⟨ce226, hce226, hMe226, hcc226⟩ := Kd.V_get HO_0.out [] x9_1 p226 (by first | exact q226 | exact of_decide_eq_true (by first | (with_reducible assumption) | assumption) | (have e_ := (Kd.V_reads' HO_0.out).1; omega))
                            obtain ⟨ua226_0, uc226_0, rfl, ul226_0, ge226_0⟩ := Kd.FK_slice_open hMe226
                            have hv226_0 := hcc226 0 _ rfl
                            rw [Nat.add_zero, show ((Kd.slice 5 (Kd.int .u8))).sz = 1 from rfl, Nat.mul_one] at hv226_0
                            replace hv226_0 := Option.some.inj (hv226_0.symm.trans hx226_0)
                            injection hv226_0 with hva_ hvn_ hvc_
                            rw [hva_] at ge226_0
                            rw [hvc_] at ul226_0
                            have HL226_0 := Aside0.mk (show Kd.V (Kd.int .u8) 5 _ w.heap.size _ _ (rd_L1 l0 x9_1) from Kd.V_mk ul226_0 ge226_0)
                            clear hva_ hvn_ hvc_ ge226_0 ul226_0
                            clear hcc226 hce226
                            have HR226_0 := Aside0.mk hi226_0
                            have HC226_0 := Aside0.mk hl226_0
                            clear hi226_0 hl226_0
                            replace p226 := eq_true p226
                            replace q226 := eq_true q226
                            have ea_ := Option.some.inj (hx225_0.symm.trans hx226_0)
                            injection ea_ with ea_ en_ ec_
                            subst ea_
                            subst ec_
                            clear en_
                            have q15 : ((ji7) : Int) ≤ (((rd_L1 l0 x9_1).length : Int) : Int) := of_decide_eq_true (by first | (with_reducible assumption) | assumption)
                            obtain ⟨i015, hi015, _, hsz15, _⟩ := info_parts info5
                            have hroom15 : (rd_L1 l0 x9_1).length ≤ c225_0 := HC225_0.out
                            have hC15 : Kd.F (Kd.int .u8) _ _ A225_0 (rd_L1 l0 x9_1).length (rd_L1 l0 x9_1) := (Kd.V_at (base := w.heap.size) HL225_0.out).2.2
                            have hcut15 := cut_to (P := Try.prog) 22 5 .i64 Try.underlying22 hi015 A225_0 (rd_L1 l0 x9_1).length c225_0 (ji7) (of_decide_eq_true (by first | (with_reducible assumption) | assumption)) q15 hroom15
                            have hr15 := Kd.F_take (m := ((ji7) : Int).toNat) hC15 (by omega)
                            have hy15 : y227.length = ((ji7) : Int).toNat := (by rw [Ny227.out, List.length_take]; omega)
                            rw [← Ny227.out] at hr15
                            rw [← hy15] at hcut15
                            have HO231 := Aside0.mk (show Kd.V (Kd.int .u8) 5 _ w.heap.size _ (.slice A225_0 y227.length c225_0) y227 from Kd.V_mk (by omega) hr15)
                            have HC231 := Aside0.mk (show y227.length ≤ c225_0 from by omega)
                            clear hr15 hC15 hroom15 hi015 hsz15
                            have KY15 := Aside0.mk hy15
                            clear hy15
                            replace q15 := eq_true q15
                            go_wp2_with (first | (go_at_call 13; (with_reducible refine (frame_Frame.calls kj1 (fun k_ => ((P0_ k_ ∨ w.heap.size ≤ k_) ∧ (some k_ ≠ (u6 : Value).ownBlock ∧ (some k_ ≠ (u7 : Value).ownBlock ∧ some k_ ≠ (u8 : Value).ownBlock)))) _ _ y227 t232 t235 _ ?side1 A10.out).mono ?_); (case side1 => exact HO231.out); rintro e w16 ⟨v233, rfl, ho0, hb⟩; have n0_ := Aside0.mk (Kd.V_elder' (by (with_reducible repeat (first | apply Kd.V_alloc | apply Kd.V_drewN | apply Kd.V_drew)); exact HO_0.out) (Kd.R_base ho0) hb); have n1_ := Aside0.mk (Kd.R_elder' (by (with_reducible repeat (first | apply Kd.R_alloc | apply Kd.R_drewN | apply Kd.R_drew)); exact HO_6.out) (Kd.R_base ho0) hb); have n2_ := Aside0.mk (Kd.N_elder' (by (with_reducible repeat (first | apply Kd.N_alloc | apply Kd.N_drewN | apply Kd.N_drew)); exact HO_7.out) (Kd.R_base ho0) hb); have n3_ := Aside0.mk (Kd.R_below (by (with_reducible repeat (first | apply Kd.R_alloc | apply Kd.R_drewN | apply Kd.R_drew)); exact HO_8.out) hb); have n4_ := Aside0.mk (Kd.V_elder' (by (with_reducible repeat (first | apply Kd.V_alloc | apply Kd.V_drewN | apply Kd.V_drew)); exact HL225_0.out) (Kd.R_base ho0) hb); have n5_ := Aside0.mk (Kd.V_elder' (by (with_reducible repeat (first | apply Kd.V_alloc | apply Kd.V_drewN | apply Kd.V_drew)); exact HL226_0.out) (Kd.R_base ho0) hb); have n6_ := Aside0.mk (Kd.V_elder' (by (with_reducible repeat (first | apply Kd.V_alloc | apply Kd.V_drewN | apply Kd.V_drew)); exact HO231.out) (Kd.R_base ho0) hb); have n7_ := Aside0.mk (Kd.R_lower (Kd.R_new' (Kd.R_newM (M := fun k_ => (w.heap.size ≤ k_)) (Kd.R_mono (ok' := fun k_ => True) ho0 (fun _ hk_ => trivial)) (below_size (by repeat (first | (with_reducible first | exact HB.out | apply below_alloc | apply pw_below_drewN | apply below_drew1) | exact HB.out))) (fun k_ h_ => h_)) (Kd.R_lt (by (with_reducible repeat (first | apply Kd.R_alloc | apply Kd.R_drewN | apply Kd.R_drew)); exact HO_6.out))) (below_size (by repeat (first | (with_reducible first | exact HB.out | apply below_alloc | apply pw_below_drewN | apply below_drew1) | exact HB.out)))); have n8_ := Aside0.mk (Kd.C_below (by repeat (first | (with_reducible exact HR225_0.out) | (with_reducible refine Kd.C_alloc ?_ _) | (with_reducible refine Kd.C_drewN ?_ _) | (with_reducible refine Kd.C_drew ?_) | exact HR225_0.out)) hb); have n9_ := Aside0.mk (Kd.C_below (by repeat (first | (with_reducible exact HR226_0.out) | (with_reducible refine Kd.C_alloc ?_ _) | (with_reducible refine Kd.C_drewN ?_ _) | (with_reducible refine Kd.C_drew ?_) | exact HR226_0.out)) hb); have n10_ := Aside0.mk (below_step (by repeat (first | (with_reducible first | exact HB.out | apply below_alloc | apply pw_below_drewN | apply below_drew1) | exact HB.out)) hb); clear HO_0; clear HO_6; clear HO_7; clear HO_8; clear HL225_0; clear HL226_0; clear HO231; clear HR225_0; clear HR226_0; clear HB; have HO_0 := n0_; have HO_6 := n1_; have HO_7 := n2_; have HO_8 := n3_; have HL225_0 := n4_; have HL226_0 := n5_; have HO231 := n6_; have HO234 := n7_; have HR225_0 := n8_; have HR226_0 := n9_; have HB := n10_; clear n0_ n1_ n2_ n3_ n4_ n5_ n6_ n7_ n8_ n9_ n10_; (try clear hb); (try clear hb2); (try clear hk); (try clear hi); (try clear ho0); obtain ⟨Ao18, co18, eo18⟩ := Kd.R_slice HO234.out; subst eo18) | ((with_reducible refine gate_builtin (b := .append) (xs := #[.tmp 41, .tmp 42]) rfl ?_); at_builtin; refine Kd.R_append_rows (Kd.int .u8) (w0 := w) w.heap.size rfl (.tmp 41) (.tmp 42) 22 5 (.int .u8 0) 1 rfl Try.underlying22 info5 rfl (by decide) (by omega) u6 x6_1 t232 _ _ _ (fun k_ => (w.heap.size ≤ k_) ∧ some k_ ≠ (.slice Ao18 t232.length co18 : Value).ownBlock) (fun _ => False) rfl rfl ?aO ?aR (fun _ _ h => h) (fun _ h => h.elim) ?aF ?aB ?aS ?aL ?_; (case aR => repeat (first | exact (Kd.R_reads' HO234.out).2.2 | (with_reducible refine Kd.C_alloc ?_ _) | (with_reducible refine Kd.C_drewN ?_ _) | (with_reducible refine Kd.C_drew ?_))); (case aB => exact (by repeat (first | (with_reducible first | exact HB.out | apply below_alloc | apply pw_below_drewN | apply below_drew1) | exact HB.out))); (case aF => exact (fun k_ hk => ⟨(Nat.le_trans (below_size (by repeat (first | (with_reducible first | exact HB.out | apply below_alloc | apply pw_below_drewN | apply below_drew1) | exact HB.out))) hk), Kd.fresh' (Kd.R_lt (by (with_reducible repeat (first | apply Kd.R_alloc | apply Kd.R_drewN | apply Kd.R_drew)); exact HO234.out)) k_ hk⟩)); (case aO => exact (by (with_reducible repeat (first | apply Kd.R_alloc | apply Kd.R_drewN | apply Kd.R_drew)); exact HO_6.out)); (case aS => exact (below_size (by repeat (first | (with_reducible first | exact HB.out | apply below_alloc | apply pw_below_drewN | apply below_drew1) | exact HB.out)))); (case aL => have := LMc12.out; omega); intro v237 w17 ho hb hg hat; rw [← Ny236.out] at ho; have n0_ := Aside0.mk (Kd.V_afterv (ok := (fun k_ => (P0_ k_ ∨ w.heap.size ≤ k_) ∧ some k_ ≠ (u7 : Value).ownBlock ∧ some k_ ≠ (u8 : Value).ownBlock ∧ some k_ ≠ (.slice Ao18 t232.length co18 : Value).ownBlock)) (by (with_reducible repeat (first | apply Kd.V_alloc | apply Kd.V_drewN | apply Kd.V_drew)); exact Kd.V_mono HO_0.out (fun _ hk => ⟨⟨hk.1.1, ⟨hk.1.2.2.1, ⟨hk.1.2.2.2, hk.2⟩⟩⟩, hk.1.2.1⟩)) hg hat); have n1_ := Aside0.mk (Kd.N_afterv (ok := (fun k_ => (P0_ k_ ∨ w.heap.size ≤ k_) ∧ some k_ ≠ (u8 : Value).ownBlock ∧ some k_ ≠ (.slice Ao18 t232.length co18 : Value).ownBlock)) (by (with_reducible repeat (first | apply Kd.N_alloc | apply Kd.N_drewN | apply Kd.N_drew)); exact Kd.N_mono HO_7.out (fun _ hk => ⟨⟨hk.1.1, ⟨hk.1.2.2, hk.2⟩⟩, hk.1.2.1⟩)) hg hat); have n2_ := Aside0.mk (Kd.R_over' (by (with_reducible repeat (first | apply Kd.R_alloc | apply Kd.R_drewN | apply Kd.R_drew)); exact HO_8.out) (Kd.R_typed (by (with_reducible repeat (first | apply Kd.R_alloc | apply Kd.R_drewN | apply Kd.R_drew)); exact HO_6.out)) (by decide) hg); have n3_ := Aside0.mk (Kd.V_afterv (ok := (fun k_ => (P0_ k_ ∨ w.heap.size ≤ k_) ∧ some k_ ≠ (u7 : Value).ownBlock ∧ some k_ ≠ (u8 : Value).ownBlock ∧ some k_ ≠ (.slice Ao18 t232.length co18 : Value).ownBlock)) (by (with_reducible repeat (first | apply Kd.V_alloc | apply Kd.V_drewN | apply Kd.V_drew)); exact Kd.V_mono HL225_0.out (fun _ hk => ⟨⟨hk.1.1, ⟨hk.1.2.2.1, ⟨hk.1.2.2.2, hk.2⟩⟩⟩, hk.1.2.1⟩)) hg hat); have n4_ := Aside0.mk (Kd.V_afterv (ok := (fun k_ => (P0_ k_ ∨ w.heap.size ≤ k_) ∧ some k_ ≠ (u7 : Value).ownBlock ∧ some k_ ≠ (u8 : Value).ownBlock ∧ some k_ ≠ (.slice Ao18 t232.length co18 : Value).ownBlock)) (by (with_reducible repeat (first | apply Kd.V_alloc | apply Kd.V_drewN | apply Kd.V_drew)); exact Kd.V_mono HL226_0.out (fun _ hk => ⟨⟨hk.1.1, ⟨hk.1.2.2.1, ⟨hk.1.2.2.2, hk.2⟩⟩⟩, hk.1.2.1⟩)) hg hat); have n5_ := Aside0.mk (Kd.V_afterv (ok := (fun k_ => (P0_ k_ ∨ w.heap.size ≤ k_) ∧ some k_ ≠ (u7 : Value).ownBlock ∧ some k_ ≠ (u8 : Value).ownBlock ∧ some k_ ≠ (.slice Ao18 t232.length co18 : Value).ownBlock)) (by (with_reducible repeat (first | apply Kd.V_alloc | apply Kd.V_drewN | apply Kd.V_drew)); exact Kd.V_mono HO231.out (fun _ hk => ⟨⟨hk.1.1, ⟨hk.1.2.2.1, ⟨hk.1.2.2.2, hk.2⟩⟩⟩, hk.1.2.1⟩)) hg hat); have n6_ := Aside0.mk (Kd.R_after (ok := (fun k_ => (w.heap.size ≤ k_))) (by (with_reducible repeat (first | apply Kd.R_alloc | apply Kd.R_drewN | apply Kd.R_drew)); exact Kd.R_mono HO234.out (fun _ hk => ⟨hk.1.1, hk.2⟩)) hg hat); have n7_ := Aside0.mk (hb); have n8_ := Aside0.mk (ho); clear HO_0; clear HO_7; clear HO_8; clear HL225_0; clear HL226_0; clear HO231; clear HO234; clear HB; clear HO_6; have HO_0 := n0_; have HO_7 := n1_; have HO_8 := n2_; have HL225_0 := n3_; have HL226_0 := n4_; have HO231 := n5_; have HO234 := n6_; have HB := n7_; have HO238 := n8_; clear n0_ n1_ n2_ n3_ n4_ n5_ n6_ n7_ n8_; clear ho hb hg hat) | ((with_reducible refine gate_builtin (b := .append) (xs := #[.tmp 44, .tmp 46]) rfl ?_); at_builtin; refine Kd.N_append (Kd.slice 5 (Kd.int .u8)) (w0 := w) w.heap.size rfl (.tmp 44) (.tmp 46) 39 22 (.slice none 0 0) 24 rfl Try.underlying39 info22 rfl (by decide) (by omega) u7 x7_1 y227 [.slice A225_0 y227.length c225_0] (fun k_ => (P0_ k_ ∨ w.heap.size ≤ k_) ∧ some k_ ≠ (u8 : Value).ownBlock ∧ some k_ ≠ (.slice Ao18 t232.length co18 : Value).ownBlock ∧ some k_ ≠ (v237 : Value).ownBlock) (fun k_ => ((fun k_ => (P0_ k_ ∨ w.heap.size ≤ k_) ∧ some k_ ≠ (u8 : Value).ownBlock ∧ some k_ ≠ (.slice Ao18 t232.length co18 : Value).ownBlock ∧ some k_ ≠ (v237 : Value).ownBlock)) k_ ∧ some k_ ≠ (u7 : Value).ownBlock) rfl rfl ?aP (fun _ hk => hk) ?aF ?aO ?aB ?aS ?aL ?_; (case aP => exact (Kd.FK_slice_mk (Kd.V_reads' (Kd.V_mono (ok' := (fun k_ => ((fun k_ => (P0_ k_ ∨ w.heap.size ≤ k_) ∧ some k_ ≠ (u8 : Value).ownBlock ∧ some k_ ≠ (.slice Ao18 t232.length co18 : Value).ownBlock ∧ some k_ ≠ (v237 : Value).ownBlock)) k_ ∧ some k_ ≠ (u7 : Value).ownBlock)) (HO231.out) (fun k_ hk => ⟨⟨hk.1.1, ⟨hk.1.2.2.1, ⟨hk.1.2.2.2, hk.2⟩⟩⟩, hk.1.2.1⟩))).2.1 (Kd.V_F (Kd.V_mono (ok' := (fun k_ => ((fun k_ => (P0_ k_ ∨ w.heap.size ≤ k_) ∧ some k_ ≠ (u8 : Value).ownBlock ∧ some k_ ≠ (.slice Ao18 t232.length co18 : Value).ownBlock ∧ some k_ ≠ (v237 : Value).ownBlock)) k_ ∧ some k_ ≠ (u7 : Value).ownBlock)) (HO231.out) (fun k_ hk => ⟨⟨hk.1.1, ⟨hk.1.2.2.1, ⟨hk.1.2.2.2, hk.2⟩⟩⟩, hk.1.2.1⟩))))); (case aB => exact (by repeat (first | (with_reducible first | exact HB.out | apply below_alloc | apply pw_below_drewN | apply below_drew1) | exact HB.out))); (case aF => exact (fun k_ hk => ⟨(.inr (Nat.le_trans (below_size (by repeat (first | (with_reducible first | exact HB.out | apply below_alloc | apply pw_below_drewN | apply below_drew1) | exact HB.out))) hk)), Kd.fresh' (Kd.R_lt (by (with_reducible repeat (first | apply Kd.R_alloc | apply Kd.R_drewN | apply Kd.R_drew)); exact HO_8.out)) k_ hk, Kd.fresh' (Kd.R_lt (by (with_reducible repeat (first | apply Kd.R_alloc | apply Kd.R_drewN | apply Kd.R_drew)); exact HO234.out)) k_ hk, Kd.fresh' (Kd.R_lt (by (with_reducible repeat (first | apply Kd.R_alloc | apply Kd.R_drewN | apply Kd.R_drew)); exact HO238.out)) k_ hk⟩)); (case aO => exact (by (with_reducible repeat (first | apply Kd.N_alloc | apply Kd.N_drewN | apply Kd.N_drew)); exact Kd.N_mono HO_7.out (fun _ hk => ⟨hk.1.1, ⟨hk.1.2.1, ⟨hk.1.2.2, hk.2⟩⟩⟩))); (case aS => exact (below_size (by repeat (first | (with_reducible first | exact HB.out | apply below_alloc | apply pw_below_drewN | apply below_drew1) | exact HB.out)))); (case aL => have := LMc13.out; omega); intro v240 w19 ho hb hg hat; rw [← Ny239.out] at ho; have n0_ := Aside0.mk (Kd.V_afterv (ok := (fun k_ => (P0_ k_ ∨ w.heap.size ≤ k_) ∧ some k_ ≠ (u8 : Value).ownBlock ∧ some k_ ≠ (.slice Ao18 t232.length co18 : Value).ownBlock ∧ some k_ ≠ (v237 : Value).ownBlock)) (by (with_reducible repeat (first | apply Kd.V_alloc | apply Kd.V_drewN | apply Kd.V_drew)); exact Kd.V_mono HO_0.out (fun _ hk => ⟨⟨hk.1.1, ⟨hk.1.2.2.1, ⟨hk.1.2.2.2, hk.2⟩⟩⟩, hk.1.2.1⟩)) hg hat); have n1_ := Aside0.mk (Kd.R_over' (by (with_reducible repeat (first | apply Kd.R_alloc | apply Kd.R_drewN | apply Kd.R_drew)); exact HO_8.out) (Kd.N_typed (by (with_reducible repeat (first | apply Kd.N_alloc | apply Kd.N_drewN | apply Kd.N_drew)); exact HO_7.out)) (by decide) hg); have n2_ := Aside0.mk (Kd.V_afterv (ok := (fun k_ => (P0_ k_ ∨ w.heap.size ≤ k_) ∧ some k_ ≠ (u8 : Value).ownBlock ∧ some k_ ≠ (.slice Ao18 t232.length co18 : Value).ownBlock ∧ some k_ ≠ (v237 : Value).ownBlock)) (by (with_reducible repeat (first | apply Kd.V_alloc | apply Kd.V_drewN | apply Kd.V_drew)); exact Kd.V_mono HL225_0.out (fun _ hk => ⟨⟨hk.1.1, ⟨hk.1.2.2.1, ⟨hk.1.2.2.2, hk.2⟩⟩⟩, hk.1.2.1⟩)) hg hat); have n3_ := Aside0.mk (Kd.V_afterv (ok := (fun k_ => (P0_ k_ ∨ w.heap.size ≤ k_) ∧ some k_ ≠ (u8 : Value).ownBlock ∧ some k_ ≠ (.slice Ao18 t232.length co18 : Value).ownBlock ∧ some k_ ≠ (v237 : Value).ownBlock)) (by (with_reducible repeat (first | apply Kd.V_alloc | apply Kd.V_drewN | apply Kd.V_drew)); exact Kd.V_mono HL226_0.out (fun _ hk => ⟨⟨hk.1.1, ⟨hk.1.2.2.1, ⟨hk.1.2.2.2, hk.2⟩⟩⟩, hk.1.2.1⟩)) hg hat); have n4_ := Aside0.mk (Kd.V_afterv (ok := (fun k_ => (P0_ k_ ∨ w.heap.size ≤ k_) ∧ some k_ ≠ (u8 : Value).ownBlock ∧ some k_ ≠ (.slice Ao18 t232.length co18 : Value).ownBlock ∧ some k_ ≠ (v237 : Value).ownBlock)) (by (with_reducible repeat (first | apply Kd.V_alloc | apply Kd.V_drewN | apply Kd.V_drew)); exact Kd.V_mono HO231.out (fun _ hk => ⟨⟨hk.1.1, ⟨hk.1.2.2.1, ⟨hk.1.2.2.2, hk.2⟩⟩⟩, hk.1.2.1⟩)) hg hat); have n5_ := Aside0.mk (Kd.R_over' (by (with_reducible repeat (first | apply Kd.R_alloc | apply Kd.R_drewN | apply Kd.R_drew)); exact HO234.out) (Kd.N_typed (by (with_reducible repeat (first | apply Kd.N_alloc | apply Kd.N_drewN | apply Kd.N_drew)); exact HO_7.out)) (by decide) hg); have n6_ := Aside0.mk (Kd.R_over' (by (with_reducible repeat (first | apply Kd.R_alloc | apply Kd.R_drewN | apply Kd.R_drew)); exact HO238.out) (Kd.N_typed (by (with_reducible repeat (first | apply Kd.N_alloc | apply Kd.N_drewN | apply Kd.N_drew)); exact HO_7.out)) (by decide) hg); have n7_ := Aside0.mk (hb); have n8_ := Aside0.mk (ho); clear HO_0; clear HO_8; clear HL225_0; clear HL226_0; clear HO231; clear HO234; clear HO238; clear HB; clear HO_7; have HO_0 := n0_; have HO_8 := n1_; have HL225_0 := n2_; have HL226_0 := n3_; have HO231 := n4_; have HO234 := n5_; have HO238 := n6_; have HB := n7_; have HO241 := n8_; clear n0_ n1_ n2_ n3_ n4_ n5_ n6_ n7_ n8_; clear ho hb hg hat; obtain ⟨Ao20, co20, eo20⟩ := Kd.R_slice HO238.out; subst eo20) | ((with_reducible refine gate_builtin (b := .append) (xs := #[.tmp 48, .tmp 51]) rfl ?_); at_builtin; refine Kd.R_append (Kd.int .i64) (w0 := w) w.heap.size rfl (.tmp 48) (.tmp 51) 42 3 (.int .i64 0) 8 rfl Try.underlying42 info3 rfl (by decide) (by omega) u8 x8_1 (y236.length : Int) [.int .i64 (y236.length : Int)] (fun k_ => (w.heap.size ≤ k_)) (fun _ => False) rfl rfl ?aP (fun _ hk => hk.elim) ?aF ?aO ?aB ?aS ?aL ?_; (case aP => exact rfl); (case aB => exact (by repeat (first | (with_reducible first | exact HB.out | apply below_alloc | apply pw_below_drewN | apply below_drew1) | exact HB.out))); (case aF => exact (fun k_ hk => (Nat.le_trans (below_size (by repeat (first | (with_reducible first | exact HB.out | apply below_alloc | apply pw_below_drewN | apply below_drew1) | exact HB.out))) hk))); (case aO => exact (by (with_reducible repeat (first | apply Kd.R_alloc | apply Kd.R_drewN | apply Kd.R_drew)); exact HO_8.out)); (case aS => exact (below_size (by repeat (first | (with_reducible first | exact HB.out | apply below_alloc | apply pw_below_drewN | apply below_drew1) | exact HB.out)))); (case aL => have := LMc14.out; omega); intro v243 w21 ho hb hg hat; rw [← Ny242.out] at ho; have n0_ := Aside0.mk (Kd.V_afterv (ok := (fun k_ => (P0_ k_ ∨ w.heap.size ≤ k_) ∧ some k_ ≠ (.slice Ao18 t232.length co18 : Value).ownBlock ∧ some k_ ≠ (.slice Ao20 y236.length co20 : Value).ownBlock ∧ some k_ ≠ (v240 : Value).ownBlock)) (by (with_reducible repeat (first | apply Kd.V_alloc | apply Kd.V_drewN | apply Kd.V_drew)); exact Kd.V_mono HO_0.out (fun _ hk => ⟨⟨hk.1.1, ⟨hk.1.2.2.1, ⟨hk.1.2.2.2, hk.2⟩⟩⟩, hk.1.2.1⟩)) hg hat); have n1_ := Aside0.mk (Kd.V_afterv (ok := (fun k_ => (P0_ k_ ∨ w.heap.size ≤ k_) ∧ some k_ ≠ (.slice Ao18 t232.length co18 : Value).ownBlock ∧ some k_ ≠ (.slice Ao20 y236.length co20 : Value).ownBlock ∧ some k_ ≠ (v240 : Value).ownBlock)) (by (with_reducible repeat (first | apply Kd.V_alloc | apply Kd.V_drewN | apply Kd.V_drew)); exact Kd.V_mono HL225_0.out (fun _ hk => ⟨⟨hk.1.1, ⟨hk.1.2.2.1, ⟨hk.1.2.2.2, hk.2⟩⟩⟩, hk.1.2.1⟩)) hg hat); have n2_ := Aside0.mk (Kd.V_afterv (ok := (fun k_ => (P0_ k_ ∨ w.heap.size ≤ k_) ∧ some k_ ≠ (.slice Ao18 t232.length co18 : Value).ownBlock ∧ some k_ ≠ (.slice Ao20 y236.length co20 : Value).ownBlock ∧ some k_ ≠ (v240 : Value).ownBlock)) (by (with_reducible repeat (first | apply Kd.V_alloc | apply Kd.V_drewN | apply Kd.V_drew)); exact Kd.V_mono HL226_0.out (fun _ hk => ⟨⟨hk.1.1, ⟨hk.1.2.2.1, ⟨hk.1.2.2.2, hk.2⟩⟩⟩, hk.1.2.1⟩)) hg hat); have n3_ := Aside0.mk (Kd.V_afterv (ok := (fun k_ => (P0_ k_ ∨ w.heap.size ≤ k_) ∧ some k_ ≠ (.slice Ao18 t232.length co18 : Value).ownBlock ∧ some k_ ≠ (.slice Ao20 y236.length co20 : Value).ownBlock ∧ some k_ ≠ (v240 : Value).ownBlock)) (by (with_reducible repeat (first | apply Kd.V_alloc | apply Kd.V_drewN | apply Kd.V_drew)); exact Kd.V_mono HO231.out (fun _ hk => ⟨⟨hk.1.1, ⟨hk.1.2.2.1, ⟨hk.1.2.2.2, hk.2⟩⟩⟩, hk.1.2.1⟩)) hg hat); have n4_ := Aside0.mk (Kd.R_over' (by (with_reducible repeat (first | apply Kd.R_alloc | apply Kd.R_drewN | apply Kd.R_drew)); exact HO234.out) (Kd.R_typed (by (with_reducible repeat (first | apply Kd.R_alloc | apply Kd.R_drewN | apply Kd.R_drew)); exact HO_8.out)) (by decide) hg); have n5_ := Aside0.mk (Kd.R_over' (by (with_reducible repeat (first | apply Kd.R_alloc | apply Kd.R_drewN | apply Kd.R_drew)); exact HO238.out) (Kd.R_typed (by (with_reducible repeat (first | apply Kd.R_alloc | apply Kd.R_drewN | apply Kd.R_drew)); exact HO_8.out)) (by decide) hg); have n6_ := Aside0.mk (Kd.N_afterv (ok := (fun k_ => (P0_ k_ ∨ w.heap.size ≤ k_) ∧ some k_ ≠ (.slice Ao18 t232.length co18 : Value).ownBlock ∧ some k_ ≠ (.slice Ao20 y236.length co20 : Value).ownBlock)) (by (with_reducible repeat (first | apply Kd.N_alloc | apply Kd.N_drewN | apply Kd.N_drew)); exact Kd.N_mono HO241.out (fun _ hk => ⟨⟨hk.1, ⟨hk.2.2.1, hk.2.2.2⟩⟩, hk.2.1⟩)) hg hat); have n7_ := Aside0.mk (hb); have n8_ := Aside0.mk (ho); clear HO_0; clear HL225_0; clear HL226_0; clear HO231; clear HO234; clear HO238; clear HO241; clear HB; clear HO_8; have HO_0 := n0_; have HL225_0 := n1_; have HL226_0 := n2_; have HO231 := n3_; have HO234 := n4_; have HO238 := n5_; have HO241 := n6_; have HB := n7_; have HO244 := n8_; clear n0_ n1_ n2_ n3_ n4_ n5_ n6_ n7_ n8_; clear ho hb hg hat))
                            repeat (go_quiet (first | (go_at_call 13; (with_reducible refine (frame_Frame.calls kj1 (fun k_ => ((P0_ k_ ∨ w.heap.size ≤ k_) ∧ (some k_ ≠ (u6 : Value).ownBlock ∧ (some k_ ≠ (u7 : Value).ownBlock ∧ some k_ ≠ (u8 : Value).ownBlock)))) _ _ y227 t232 t235 _ ?side1 A10.out).mono ?_); (case side1 => exact HO231.out); rintro e w16 ⟨v233, rfl, ho0, hb⟩; have n0_ := Aside0.mk (Kd.V_elder' (by (with_reducible repeat (first | apply Kd.V_alloc | apply Kd.V_drewN | apply Kd.V_drew)); exact HO_0.out) (Kd.R_base ho0) hb); have n1_ := Aside0.mk (Kd.R_elder' (by (with_reducible repeat (first | apply Kd.R_alloc | apply Kd.R_drewN | apply Kd.R_drew)); exact HO_6.out) (Kd.R_base ho0) hb); have n2_ := Aside0.mk (Kd.N_elder' (by (with_reducible repeat (first | apply Kd.N_alloc | apply Kd.N_drewN | apply Kd.N_drew)); exact HO_7.out) (Kd.R_base ho0) hb); have n3_ := Aside0.mk (Kd.R_below (by (with_reducible repeat (first | apply Kd.R_alloc | apply Kd.R_drewN | apply Kd.R_drew)); exact HO_8.out) hb); have n4_ := Aside0.mk (Kd.V_elder' (by (with_reducible repeat (first | apply Kd.V_alloc | apply Kd.V_drewN | apply Kd.V_drew)); exact HL225_0.out) (Kd.R_base ho0) hb); have n5_ := Aside0.mk (Kd.V_elder' (by (with_reducible repeat (first | apply Kd.V_alloc | apply Kd.V_drewN | apply Kd.V_drew)); exact HL226_0.out) (Kd.R_base ho0) hb); have n6_ := Aside0.mk (Kd.V_elder' (by (with_reducible repeat (first | apply Kd.V_alloc | apply Kd.V_drewN | apply Kd.V_drew)); exact HO231.out) (Kd.R_base ho0) hb); have n7_ := Aside0.mk (Kd.R_lower (Kd.R_new' (Kd.R_newM (M := fun k_ => (w.heap.size ≤ k_)) (Kd.R_mono (ok' := fun k_ => True) ho0 (fun _ hk_ => trivial)) (below_size (by repeat (first | (with_reducible first | exact HB.out | apply below_alloc | apply pw_below_drewN | apply below_drew1) | exact HB.out))) (fun k_ h_ => h_)) (Kd.R_lt (by (with_reducible repeat (first | apply Kd.R_alloc | apply Kd.R_drewN | apply Kd.R_drew)); exact HO_6.out))) (below_size (by repeat (first | (with_reducible first | exact HB.out | apply below_alloc | apply pw_below_drewN | apply below_drew1) | exact HB.out)))); have n8_ := Aside0.mk (Kd.C_below (by repeat (first | (with_reducible exact HR225_0.out) | (with_reducible refine Kd.C_alloc ?_ _) | (with_reducible refine Kd.C_drewN ?_ _) | (with_reducible refine Kd.C_drew ?_) | exact HR225_0.out)) hb); have n9_ := Aside0.mk (Kd.C_below (by repeat (first | (with_reducible exact HR226_0.out) | (with_reducible refine Kd.C_alloc ?_ _) | (with_reducible refine Kd.C_drewN ?_ _) | (with_reducible refine Kd.C_drew ?_) | exact HR226_0.out)) hb); have n10_ := Aside0.mk (below_step (by repeat (first | (with_reducible first | exact HB.out | apply below_alloc | apply pw_below_drewN | apply below_drew1) | exact HB.out)) hb); clear HO_0; clear HO_6; clear HO_7; clear HO_8; clear HL225_0; clear HL226_0; clear HO231; clear HR225_0; clear HR226_0; clear HB; have HO_0 := n0_; have HO_6 := n1_; have HO_7 := n2_; have HO_8 := n3_; have HL225_0 := n4_; have HL226_0 := n5_; have HO231 := n6_; have HO234 := n7_; have HR225_0 := n8_; have HR226_0 := n9_; have HB := n10_; clear n0_ n1_ n2_ n3_ n4_ n5_ n6_ n7_ n8_ n9_ n10_; (try clear hb); (try clear hb2); (try clear hk); (try clear hi); (try clear ho0); obtain ⟨Ao18, co18, eo18⟩ := Kd.R_slice HO234.out; subst eo18) | ((with_reducible refine gate_builtin (b := .append) (xs := #[.tmp 41, .tmp 42]) rfl ?_); at_builtin; refine Kd.R_append_rows (Kd.int .u8) (w0 := w) w.heap.size rfl (.tmp 41) (.tmp 42) 22 5 (.int .u8 0) 1 rfl Try.underlying22 info5 rfl (by decide) (by omega) u6 x6_1 t232 _ _ _ (fun k_ => (w.heap.size ≤ k_) ∧ some k_ ≠ (.slice Ao18 t232.length co18 : Value).ownBlock) (fun _ => False) rfl rfl ?aO ?aR (fun _ _ h => h) (fun _ h => h.elim) ?aF ?aB ?aS ?aL ?_; (case aR => repeat (first | exact (Kd.R_reads' HO234.out).2.2 | (with_reducible refine Kd.C_alloc ?_ _) | (with_reducible refine Kd.C_drewN ?_ _) | (with_reducible refine Kd.C_drew ?_))); (case aB => exact (by repeat (first | (with_reducible first | exact HB.out | apply below_alloc | apply pw_below_drewN | apply below_drew1) | exact HB.out))); (case aF => exact (fun k_ hk => ⟨(Nat.le_trans (below_size (by repeat (first | (with_reducible first | exact HB.out | apply below_alloc | apply pw_below_drewN | apply below_drew1) | exact HB.out))) hk), Kd.fresh' (Kd.R_lt (by (with_reducible repeat (first | apply Kd.R_alloc | apply Kd.R_drewN | apply Kd.R_drew)); exact HO234.out)) k_ hk⟩)); (case aO => exact (by (with_reducible repeat (first | apply Kd.R_alloc | apply Kd.R_drewN | apply Kd.R_drew)); exact HO_6.out)); (case aS => exact (below_size (by repeat (first | (with_reducible first | exact HB.out | apply below_alloc | apply pw_below_drewN | apply below_drew1) | exact HB.out)))); (case aL => have := LMc12.out; omega); intro v237 w17 ho hb hg hat; rw [← Ny236.out] at ho; have n0_ := Aside0.mk (Kd.V_afterv (ok := (fun k_ => (P0_ k_ ∨ w.heap.size ≤ k_) ∧ some k_ ≠ (u7 : Value).ownBlock ∧ some k_ ≠ (u8 : Value).ownBlock ∧ some k_ ≠ (.slice Ao18 t232.length co18 : Value).ownBlock)) (by (with_reducible repeat (first | apply Kd.V_alloc | apply Kd.V_drewN | apply Kd.V_drew)); exact Kd.V_mono HO_0.out (fun _ hk => ⟨⟨hk.1.1, ⟨hk.1.2.2.1, ⟨hk.1.2.2.2, hk.2⟩⟩⟩, hk.1.2.1⟩)) hg hat); have n1_ := Aside0.mk (Kd.N_afterv (ok := (fun k_ => (P0_ k_ ∨ w.heap.size ≤ k_) ∧ some k_ ≠ (u8 : Value).ownBlock ∧ some k_ ≠ (.slice Ao18 t232.length co18 : Value).ownBlock)) (by (with_reducible repeat (first | apply Kd.N_alloc | apply Kd.N_drewN | apply Kd.N_drew)); exact Kd.N_mono HO_7.out (fun _ hk => ⟨⟨hk.1.1, ⟨hk.1.2.2, hk.2⟩⟩, hk.1.2.1⟩)) hg hat); have n2_ := Aside0.mk (Kd.R_over' (by (with_reducible repeat (first | apply Kd.R_alloc | apply Kd.R_drewN | apply Kd.R_drew)); exact HO_8.out) (Kd.R_typed (by (with_reducible repeat (first | apply Kd.R_alloc | apply Kd.R_drewN | apply Kd.R_drew)); exact HO_6.out)) (by decide) hg); have n3_ := Aside0.mk (Kd.V_afterv (ok := (fun k_ => (P0_ k_ ∨ w.heap.size ≤ k_) ∧ some k_ ≠ (u7 : Value).ownBlock ∧ some k_ ≠ (u8 : Value).ownBlock ∧ some k_ ≠ (.slice Ao18 t232.length co18 : Value).ownBlock)) (by (with_reducible repeat (first | apply Kd.V_alloc | apply Kd.V_drewN | apply Kd.V_drew)); exact Kd.V_mono HL225_0.out (fun _ hk => ⟨⟨hk.1.1, ⟨hk.1.2.2.1, ⟨hk.1.2.2.2, hk.2⟩⟩⟩, hk.1.2.1⟩)) hg hat); have n4_ := Aside0.mk (Kd.V_afterv (ok := (fun k_ => (P0_ k_ ∨ w.heap.size ≤ k_) ∧ some k_ ≠ (u7 : Value).ownBlock ∧ some k_ ≠ (u8 : Value).ownBlock ∧ some k_ ≠ (.slice Ao18 t232.length co18 : Value).ownBlock)) (by (with_reducible repeat (first | apply Kd.V_alloc | apply Kd.V_drewN | apply Kd.V_drew)); exact Kd.V_mono HL226_0.out (fun _ hk => ⟨⟨hk.1.1, ⟨hk.1.2.2.1, ⟨hk.1.2.2.2, hk.2⟩⟩⟩, hk.1.2.1⟩)) hg hat); have n5_ := Aside0.mk (Kd.V_afterv (ok := (fun k_ => (P0_ k_ ∨ w.heap.size ≤ k_) ∧ some k_ ≠ (u7 : Value).ownBlock ∧ some k_ ≠ (u8 : Value).ownBlock ∧ some k_ ≠ (.slice Ao18 t232.length co18 : Value).ownBlock)) (by (with_reducible repeat (first | apply Kd.V_alloc | apply Kd.V_drewN | apply Kd.V_drew)); exact Kd.V_mono HO231.out (fun _ hk => ⟨⟨hk.1.1, ⟨hk.1.2.2.1, ⟨hk.1.2.2.2, hk.2⟩⟩⟩, hk.1.2.1⟩)) hg hat); have n6_ := Aside0.mk (Kd.R_after (ok := (fun k_ => (w.heap.size ≤ k_))) (by (with_reducible repeat (first | apply Kd.R_alloc | apply Kd.R_drewN | apply Kd.R_drew)); exact Kd.R_mono HO234.out (fun _ hk => ⟨hk.1.1, hk.2⟩)) hg hat); have n7_ := Aside0.mk (hb); have n8_ := Aside0.mk (ho); clear HO_0; clear HO_7; clear HO_8; clear HL225_0; clear HL226_0; clear HO231; clear HO234; clear HB; clear HO_6; have HO_0 := n0_; have HO_7 := n1_; have HO_8 := n2_; have HL225_0 := n3_; have HL226_0 := n4_; have HO231 := n5_; have HO234 := n6_; have HB := n7_; have HO238 := n8_; clear n0_ n1_ n2_ n3_ n4_ n5_ n6_ n7_ n8_; clear ho hb hg hat) | ((with_reducible refine gate_builtin (b := .append) (xs := #[.tmp 44, .tmp 46]) rfl ?_); at_builtin; refine Kd.N_append (Kd.slice 5 (Kd.int .u8)) (w0 := w) w.heap.size rfl (.tmp 44) (.tmp 46) 39 22 (.slice none 0 0) 24 rfl Try.underlying39 info22 rfl (by decide) (by omega) u7 x7_1 y227 [.slice A225_0 y227.length c225_0] (fun k_ => (P0_ k_ ∨ w.heap.size ≤ k_) ∧ some k_ ≠ (u8 : Value).ownBlock ∧ some k_ ≠ (.slice Ao18 t232.length co18 : Value).ownBlock ∧ some k_ ≠ (v237 : Value).ownBlock) (fun k_ => ((fun k_ => (P0_ k_ ∨ w.heap.size ≤ k_) ∧ some k_ ≠ (u8 : Value).ownBlock ∧ some k_ ≠ (.slice Ao18 t232.length co18 : Value).ownBlock ∧ some k_ ≠ (v237 : Value).ownBlock)) k_ ∧ some k_ ≠ (u7 : Value).ownBlock) rfl rfl ?aP (fun _ hk => hk) ?aF ?aO ?aB ?aS ?aL ?_; (case aP => exact (Kd.FK_slice_mk (Kd.V_reads' (Kd.V_mono (ok' := (fun k_ => ((fun k_ => (P0_ k_ ∨ w.heap.size ≤ k_) ∧ some k_ ≠ (u8 : Value).ownBlock ∧ some k_ ≠ (.slice Ao18 t232.length co18 : Value).ownBlock ∧ some k_ ≠ (v237 : Value).ownBlock)) k_ ∧ some k_ ≠ (u7 : Value).ownBlock)) (HO231.out) (fun k_ hk => ⟨⟨hk.1.1, ⟨hk.1.2.2.1, ⟨hk.1.2.2.2, hk.2⟩⟩⟩, hk.1.2.1⟩))).2.1 (Kd.V_F (Kd.V_mono (ok' := (fun k_ => ((fun k_ => (P0_ k_ ∨ w.heap.size ≤ k_) ∧ some k_ ≠ (u8 : Value).ownBlock ∧ some k_ ≠ (.slice Ao18 t232.length co18 : Value).ownBlock ∧ some k_ ≠ (v237 : Value).ownBlock)) k_ ∧ some k_ ≠ (u7 : Value).ownBlock)) (HO231.out) (fun k_ hk => ⟨⟨hk.1.1, ⟨hk.1.2.2.1, ⟨hk.1.2.2.2, hk.2⟩⟩⟩, hk.1.2.1⟩))))); (case aB => exact (by repeat (first | (with_reducible first | exact HB.out | apply below_alloc | apply pw_below_drewN | apply below_drew1) | exact HB.out))); (case aF => exact (fun k_ hk => ⟨(.inr (Nat.le_trans (below_size (by repeat (first | (with_reducible first | exact HB.out | apply below_alloc | apply pw_below_drewN | apply below_drew1) | exact HB.out))) hk)), Kd.fresh' (Kd.R_lt (by (with_reducible repeat (first | apply Kd.R_alloc | apply Kd.R_drewN | apply Kd.R_drew)); exact HO_8.out)) k_ hk, Kd.fresh' (Kd.R_lt (by (with_reducible repeat (first | apply Kd.R_alloc | apply Kd.R_drewN | apply Kd.R_drew)); exact HO234.out)) k_ hk, Kd.fresh' (Kd.R_lt (by (with_reducible repeat (first | apply Kd.R_alloc | apply Kd.R_drewN | apply Kd.R_drew)); exact HO238.out)) k_ hk⟩)); (case aO => exact (by (with_reducible repeat (first | apply Kd.N_alloc | apply Kd.N_drewN | apply Kd.N_drew)); exact Kd.N_mono HO_7.out (fun _ hk => ⟨hk.1.1, ⟨hk.1.2.1, ⟨hk.1.2.2, hk.2⟩⟩⟩))); (case aS => exact (below_size (by repeat (first | (with_reducible first | exact HB.out | apply below_alloc | apply pw_below_drewN | apply below_drew1) | exact HB.out)))); (case aL => have := LMc13.out; omega); intro v240 w19 ho hb hg hat; rw [← Ny239.out] at ho; have n0_ := Aside0.mk (Kd.V_afterv (ok := (fun k_ => (P0_ k_ ∨ w.heap.size ≤ k_) ∧ some k_ ≠ (u8 : Value).ownBlock ∧ some k_ ≠ (.slice Ao18 t232.length co18 : Value).ownBlock ∧ some k_ ≠ (v237 : Value).ownBlock)) (by (with_reducible repeat (first | apply Kd.V_alloc | apply Kd.V_drewN | apply Kd.V_drew)); exact Kd.V_mono HO_0.out (fun _ hk => ⟨⟨hk.1.1, ⟨hk.1.2.2.1, ⟨hk.1.2.2.2, hk.2⟩⟩⟩, hk.1.2.1⟩)) hg hat); have n1_ := Aside0.mk (Kd.R_over' (by (with_reducible repeat (first | apply Kd.R_alloc | apply Kd.R_drewN | apply Kd.R_drew)); exact HO_8.out) (Kd.N_typed (by (with_reducible repeat (first | apply Kd.N_alloc | apply Kd.N_drewN | apply Kd.N_drew)); exact HO_7.out)) (by decide) hg); have n2_ := Aside0.mk (Kd.V_afterv (ok := (fun k_ => (P0_ k_ ∨ w.heap.size ≤ k_) ∧ some k_ ≠ (u8 : Value).ownBlock ∧ some k_ ≠ (.slice Ao18 t232.length co18 : Value).ownBlock ∧ some k_ ≠ (v237 : Value).ownBlock)) (by (with_reducible repeat (first | apply Kd.V_alloc | apply Kd.V_drewN | apply Kd.V_drew)); exact Kd.V_mono HL225_0.out (fun _ hk => ⟨⟨hk.1.1, ⟨hk.1.2.2.1, ⟨hk.1.2.2.2, hk.2⟩⟩⟩, hk.1.2.1⟩)) hg hat); have n3_ := Aside0.mk (Kd.V_afterv (ok := (fun k_ => (P0_ k_ ∨ w.heap.size ≤ k_) ∧ some k_ ≠ (u8 : Value).ownBlock ∧ some k_ ≠ (.slice Ao18 t232.length co18 : Value).ownBlock ∧ some k_ ≠ (v237 : Value).ownBlock)) (by (with_reducible repeat (first | apply Kd.V_alloc | apply Kd.V_drewN | apply Kd.V_drew)); exact Kd.V_mono HL226_0.out (fun _ hk => ⟨⟨hk.1.1, ⟨hk.1.2.2.1, ⟨hk.1.2.2.2, hk.2⟩⟩⟩, hk.1.2.1⟩)) hg hat); have n4_ := Aside0.mk (Kd.V_afterv (ok := (fun k_ => (P0_ k_ ∨ w.heap.size ≤ k_) ∧ some k_ ≠ (u8 : Value).ownBlock ∧ some k_ ≠ (.slice Ao18 t232.length co18 : Value).ownBlock ∧ some k_ ≠ (v237 : Value).ownBlock)) (by (with_reducible repeat (first | apply Kd.V_alloc | apply Kd.V_drewN | apply Kd.V_drew)); exact Kd.V_mono HO231.out (fun _ hk => ⟨⟨hk.1.1, ⟨hk.1.2.2.1, ⟨hk.1.2.2.2, hk.2⟩⟩⟩, hk.1.2.1⟩)) hg hat); have n5_ := Aside0.mk (Kd.R_over' (by (with_reducible repeat (first | apply Kd.R_alloc | apply Kd.R_drewN | apply Kd.R_drew)); exact HO234.out) (Kd.N_typed (by (with_reducible repeat (first | apply Kd.N_alloc | apply Kd.N_drewN | apply Kd.N_drew)); exact HO_7.out)) (by decide) hg); have n6_ := Aside0.mk (Kd.R_over' (by (with_reducible repeat (first | apply Kd.R_alloc | apply Kd.R_drewN | apply Kd.R_drew)); exact HO238.out) (Kd.N_typed (by (with_reducible repeat (first | apply Kd.N_alloc | apply Kd.N_drewN | apply Kd.N_drew)); exact HO_7.out)) (by decide) hg); have n7_ := Aside0.mk (hb); have n8_ := Aside0.mk (ho); clear HO_0; clear HO_8; clear HL225_0; clear HL226_0; clear HO231; clear HO234; clear HO238; clear HB; clear HO_7; have HO_0 := n0_; have HO_8 := n1_; have HL225_0 := n2_; have HL226_0 := n3_; have HO231 := n4_; have HO234 := n5_; have HO238 := n6_; have HB := n7_; have HO241 := n8_; clear n0_ n1_ n2_ n3_ n4_ n5_ n6_ n7_ n8_; clear ho hb hg hat; obtain ⟨Ao20, co20, eo20⟩ := Kd.R_slice HO238.out; subst eo20) | ((with_reducible refine gate_builtin (b := .append) (xs := #[.tmp 48, .tmp 51]) rfl ?_); at_builtin; refine Kd.R_append (Kd.int .i64) (w0 := w) w.heap.size rfl (.tmp 48) (.tmp 51) 42 3 (.int .i64 0) 8 rfl Try.underlying42 info3 rfl (by decide) (by omega) u8 x8_1 (y236.length : Int) [.int .i64 (y236.length : Int)] (fun k_ => (w.heap.size ≤ k_)) (fun _ => False) rfl rfl ?aP (fun _ hk => hk.elim) ?aF ?aO ?aB ?aS ?aL ?_; (case aP => exact rfl); (case aB => exact (by repeat (first | (with_reducible first | exact HB.out | apply below_alloc | apply pw_below_drewN | apply below_drew1) | exact HB.out))); (case aF => exact (fun k_ hk => (Nat.le_trans (below_size (by repeat (first | (with_reducible first | exact HB.out | apply below_alloc | apply pw_below_drewN | apply below_drew1) | exact HB.out))) hk))); (case aO => exact (by (with_reducible repeat (first | apply Kd.R_alloc | apply Kd.R_drewN | apply Kd.R_drew)); exact HO_8.out)); (case aS => exact (below_size (by repeat (first | (with_reducible first | exact HB.out | apply below_alloc | apply pw_below_drewN | apply below_drew1) | exact HB.out)))); (case aL => have := LMc14.out; omega); intro v243 w21 ho hb hg hat; rw [← Ny242.out] at ho; have n0_ := Aside0.mk (Kd.V_afterv (ok := (fun k_ => (P0_ k_ ∨ w.heap.size ≤ k_) ∧ some k_ ≠ (.slice Ao18 t232.length co18 : Value).ownBlock ∧ some k_ ≠ (.slice Ao20 y236.length co20 : Value).ownBlock ∧ some k_ ≠ (v240 : Value).ownBlock)) (by (with_reducible repeat (first | apply Kd.V_alloc | apply Kd.V_drewN | apply Kd.V_drew)); exact Kd.V_mono HO_0.out (fun _ hk => ⟨⟨hk.1.1, ⟨hk.1.2.2.1, ⟨hk.1.2.2.2, hk.2⟩⟩⟩, hk.1.2.1⟩)) hg hat); have n1_ := Aside0.mk (Kd.V_afterv (ok := (fun k_ => (P0_ k_ ∨ w.heap.size ≤ k_) ∧ some k_ ≠ (.slice Ao18 t232.length co18 : Value).ownBlock ∧ some k_ ≠ (.slice Ao20 y236.length co20 : Value).ownBlock ∧ some k_ ≠ (v240 : Value).ownBlock)) (by (with_reducible repeat (first | apply Kd.V_alloc | apply Kd.V_drewN | apply Kd.V_drew)); exact Kd.V_mono HL225_0.out (fun _ hk => ⟨⟨hk.1.1, ⟨hk.1.2.2.1, ⟨hk.1.2.2.2, hk.2⟩⟩⟩, hk.1.2.1⟩)) hg hat); have n2_ := Aside0.mk (Kd.V_afterv (ok := (fun k_ => (P0_ k_ ∨ w.heap.size ≤ k_) ∧ some k_ ≠ (.slice Ao18 t232.length co18 : Value).ownBlock ∧ some k_ ≠ (.slice Ao20 y236.length co20 : Value).ownBlock ∧ some k_ ≠ (v240 : Value).ownBlock)) (by (with_reducible repeat (first | apply Kd.V_alloc | apply Kd.V_drewN | apply Kd.V_drew)); exact Kd.V_mono HL226_0.out (fun _ hk => ⟨⟨hk.1.1, ⟨hk.1.2.2.1, ⟨hk.1.2.2.2, hk.2⟩⟩⟩, hk.1.2.1⟩)) hg hat); have n3_ := Aside0.mk (Kd.V_afterv (ok := (fun k_ => (P0_ k_ ∨ w.heap.size ≤ k_) ∧ some k_ ≠ (.slice Ao18 t232.length co18 : Value).ownBlock ∧ some k_ ≠ (.slice Ao20 y236.length co20 : Value).ownBlock ∧ some k_ ≠ (v240 : Value).ownBlock)) (by (with_reducible repeat (first | apply Kd.V_alloc | apply Kd.V_drewN | apply Kd.V_drew)); exact Kd.V_mono HO231.out (fun _ hk => ⟨⟨hk.1.1, ⟨hk.1.2.2.1, ⟨hk.1.2.2.2, hk.2⟩⟩⟩, hk.1.2.1⟩)) hg hat); have n4_ := Aside0.mk (Kd.R_over' (by (with_reducible repeat (first | apply Kd.R_alloc | apply Kd.R_drewN | apply Kd.R_drew)); exact HO234.out) (Kd.R_typed (by (with_reducible repeat (first | apply Kd.R_alloc | apply Kd.R_drewN | apply Kd.R_drew)); exact HO_8.out)) (by decide) hg); have n5_ := Aside0.mk (Kd.R_over' (by (with_reducible repeat (first | apply Kd.R_alloc | apply Kd.R_drewN | apply Kd.R_drew)); exact HO238.out) (Kd.R_typed (by (with_reducible repeat (first | apply Kd.R_alloc | apply Kd.R_drewN | apply Kd.R_drew)); exact HO_8.out)) (by decide) hg); have n6_ := Aside0.mk (Kd.N_afterv (ok := (fun k_ => (P0_ k_ ∨ w.heap.size ≤ k_) ∧ some k_ ≠ (.slice Ao18 t232.length co18 : Value).ownBlock ∧ some k_ ≠ (.slice Ao20 y236.length co20 : Value).ownBlock)) (by (with_reducible repeat (first | apply Kd.N_alloc | apply Kd.N_drewN | apply Kd.N_drew)); exact Kd.N_mono HO241.out (fun _ hk => ⟨⟨hk.1, ⟨hk.2.2.1, hk.2.2.2⟩⟩, hk.2.1⟩)) hg hat); have n7_ := Aside0.mk (hb); have n8_ := Aside0.mk (ho); clear HO_0; clear HL225_0; clear HL226_0; clear HO231; clear HO234; clear HO238; clear HO241; clear HB; clear HO_8; have HO_0 := n0_; have HL225_0 := n1_; have HL226_0 := n2_; have HO231 := n3_; have HO234 := n4_; have HO238 := n5_; have HO241 := n6_; have HB := n7_; have HO244 := n8_; clear n0_ n1_ n2_ n3_ n4_ n5_ n6_ n7_ n8_; clear ho hb hg hat)); try go_wp2_with (first | (go_at_call 13; (with_reducible refine (frame_Frame.calls kj1 (fun k_ => ((P0_ k_ ∨ w.heap.size ≤ k_) ∧ (some k_ ≠ (u6 : Value).ownBlock ∧ (some k_ ≠ (u7 : Value).ownBlock ∧ some k_ ≠ (u8 : Value).ownBlock)))) _ _ y227 t232 t235 _ ?side1 A10.out).mono ?_); (case side1 => exact HO231.out); rintro e w16 ⟨v233, rfl, ho0, hb⟩; have n0_ := Aside0.mk (Kd.V_elder' (by (with_reducible repeat (first | apply Kd.V_alloc | apply Kd.V_drewN | apply Kd.V_drew)); exact HO_0.out) (Kd.R_base ho0) hb); have n1_ := Aside0.mk (Kd.R_elder' (by (with_reducible repeat (first | apply Kd.R_alloc | apply Kd.R_drewN | apply Kd.R_drew)); exact HO_6.out) (Kd.R_base ho0) hb); have n2_ := Aside0.mk (Kd.N_elder' (by (with_reducible repeat (first | apply Kd.N_alloc | apply Kd.N_drewN | apply Kd.N_drew)); exact HO_7.out) (Kd.R_base ho0) hb); have n3_ := Aside0.mk (Kd.R_below (by (with_reducible repeat (first | apply Kd.R_alloc | apply Kd.R_drewN | apply Kd.R_drew)); exact HO_8.out) hb); have n4_ := Aside0.mk (Kd.V_elder' (by (with_reducible repeat (first | apply Kd.V_alloc | apply Kd.V_drewN | apply Kd.V_drew)); exact HL225_0.out) (Kd.R_base ho0) hb); have n5_ := Aside0.mk (Kd.V_elder' (by (with_reducible repeat (first | apply Kd.V_alloc | apply Kd.V_drewN | apply Kd.V_drew)); exact HL226_0.out) (Kd.R_base ho0) hb); have n6_ := Aside0.mk (Kd.V_elder' (by (with_reducible repeat (first | apply Kd.V_alloc | apply Kd.V_drewN | apply Kd.V_drew)); exact HO231.out) (Kd.R_base ho0) hb); have n7_ := Aside0.mk (Kd.R_lower (Kd.R_new' (Kd.R_newM (M := fun k_ => (w.heap.size ≤ k_)) (Kd.R_mono (ok' := fun k_ => True) ho0 (fun _ hk_ => trivial)) (below_size (by repeat (first | (with_reducible first | exact HB.out | apply below_alloc | apply pw_below_drewN | apply below_drew1) | exact HB.out))) (fun k_ h_ => h_)) (Kd.R_lt (by (with_reducible repeat (first | apply Kd.R_alloc | apply Kd.R_drewN | apply Kd.R_drew)); exact HO_6.out))) (below_size (by repeat (first | (with_reducible first | exact HB.out | apply below_alloc | apply pw_below_drewN | apply below_drew1) | exact HB.out)))); have n8_ := Aside0.mk (Kd.C_below (by repeat (first | (with_reducible exact HR225_0.out) | (with_reducible refine Kd.C_alloc ?_ _) | (with_reducible refine Kd.C_drewN ?_ _) | (with_reducible refine Kd.C_drew ?_) | exact HR225_0.out)) hb); have n9_ := Aside0.mk (Kd.C_below (by repeat (first | (with_reducible exact HR226_0.out) | (with_reducible refine Kd.C_alloc ?_ _) | (with_reducible refine Kd.C_drewN ?_ _) | (with_reducible refine Kd.C_drew ?_) | exact HR226_0.out)) hb); have n10_ := Aside0.mk (below_step (by repeat (first | (with_reducible first | exact HB.out | apply below_alloc | apply pw_below_drewN | apply below_drew1) | exact HB.out)) hb); clear HO_0; clear HO_6; clear HO_7; clear HO_8; clear HL225_0; clear HL226_0; clear HO231; clear HR225_0; clear HR226_0; clear HB; have HO_0 := n0_; have HO_6 := n1_; have HO_7 := n2_; have HO_8 := n3_; have HL225_0 := n4_; have HL226_0 := n5_; have HO231 := n6_; have HO234 := n7_; have HR225_0 := n8_; have HR226_0 := n9_; have HB := n10_; clear n0_ n1_ n2_ n3_ n4_ n5_ n6_ n7_ n8_ n9_ n10_; (try clear hb); (try clear hb2); (try clear hk); (try clear hi); (try clear ho0); obtain ⟨Ao18, co18, eo18⟩ := Kd.R_slice HO234.out; subst eo18) | ((with_reducible refine gate_builtin (b := .append) (xs := #[.tmp 41, .tmp 42]) rfl ?_); at_builtin; refine Kd.R_append_rows (Kd.int .u8) (w0 := w) w.heap.size rfl (.tmp 41) (.tmp 42) 22 5 (.int .u8 0) 1 rfl Try.underlying22 info5 rfl (by decide) (by omega) u6 x6_1 t232 _ _ _ (fun k_ => (w.heap.size ≤ k_) ∧ some k_ ≠ (.slice Ao18 t232.length co18 : Value).ownBlock) (fun _ => False) rfl rfl ?aO ?aR (fun _ _ h => h) (fun _ h => h.elim) ?aF ?aB ?aS ?aL ?_; (case aR => repeat (first | exact (Kd.R_reads' HO234.out).2.2 | (with_reducible refine Kd.C_alloc ?_ _) | (with_reducible refine Kd.C_drewN ?_ _) | (with_reducible refine Kd.C_drew ?_))); (case aB => exact (by repeat (first | (with_reducible first | exact HB.out | apply below_alloc | apply pw_below_drewN | apply below_drew1) | exact HB.out))); (case aF => exact (fun k_ hk => ⟨(Nat.le_trans (below_size (by repeat (first | (with_reducible first | exact HB.out | apply below_alloc | apply pw_below_drewN | apply below_drew1) | exact HB.out))) hk), Kd.fresh' (Kd.R_lt (by (with_reducible repeat (first | apply Kd.R_alloc | apply Kd.R_drewN | apply Kd.R_drew)); exact HO234.out)) k_ hk⟩)); (case aO => exact (by (with_reducible repeat (first | apply Kd.R_alloc | apply Kd.R_drewN | apply Kd.R_drew)); exact HO_6.out)); (case aS => exact (below_size (by repeat (first | (with_reducible first | exact HB.out | apply below_alloc | apply pw_below_drewN | apply below_drew1) | exact HB.out)))); (case aL => have := LMc12.out; omega); intro v237 w17 ho hb hg hat; rw [← Ny236.out] at ho; have n0_ := Aside0.mk (Kd.V_afterv (ok := (fun k_ => (P0_ k_ ∨ w.heap.size ≤ k_) ∧ some k_ ≠ (u7 : Value).ownBlock ∧ some k_ ≠ (u8 : Value).ownBlock ∧ some k_ ≠ (.slice Ao18 t232.length co18 : Value).ownBlock)) (by (with_reducible repeat (first | apply Kd.V_alloc | apply Kd.V_drewN | apply Kd.V_drew)); exact Kd.V_mono HO_0.out (fun _ hk => ⟨⟨hk.1.1, ⟨hk.1.2.2.1, ⟨hk.1.2.2.2, hk.2⟩⟩⟩, hk.1.2.1⟩)) hg hat); have n1_ := Aside0.mk (Kd.N_afterv (ok := (fun k_ => (P0_ k_ ∨ w.heap.size ≤ k_) ∧ some k_ ≠ (u8 : Value).ownBlock ∧ some k_ ≠ (.slice Ao18 t232.length co18 : Value).ownBlock)) (by (with_reducible repeat (first | apply Kd.N_alloc | apply Kd.N_drewN | apply Kd.N_drew)); exact Kd.N_mono HO_7.out (fun _ hk => ⟨⟨hk.1.1, ⟨hk.1.2.2, hk.2⟩⟩, hk.1.2.1⟩)) hg hat); have n2_ := Aside0.mk (Kd.R_over' (by (with_reducible repeat (first | apply Kd.R_alloc | apply Kd.R_drewN | apply Kd.R_drew)); exact HO_8.out) (Kd.R_typed (by (with_reducible repeat (first | apply Kd.R_alloc | apply Kd.R_drewN | apply Kd.R_drew)); exact HO_6.out)) (by decide) hg); have n3_ := Aside0.mk (Kd.V_afterv (ok := (fun k_ => (P0_ k_ ∨ w.heap.size ≤ k_) ∧ some k_ ≠ (u7 : Value).ownBlock ∧ some k_ ≠ (u8 : Value).ownBlock ∧ some k_ ≠ (.slice Ao18 t232.length co18 : Value).ownBlock)) (by (with_reducible repeat (first | apply Kd.V_alloc | apply Kd.V_drewN | apply Kd.V_drew)); exact Kd.V_mono HL225_0.out (fun _ hk => ⟨⟨hk.1.1, ⟨hk.1.2.2.1, ⟨hk.1.2.2.2, hk.2⟩⟩⟩, hk.1.2.1⟩)) hg hat); have n4_ := Aside0.mk (Kd.V_afterv (ok := (fun k_ => (P0_ k_ ∨ w.heap.size ≤ k_) ∧ some k_ ≠ (u7 : Value).ownBlock ∧ some k_ ≠ (u8 : Value).ownBlock ∧ some k_ ≠ (.slice Ao18 t232.length co18 : Value).ownBlock)) (by (with_reducible repeat (first | apply Kd.V_alloc | apply Kd.V_drewN | apply Kd.V_drew)); exact Kd.V_mono HL226_0.out (fun _ hk => ⟨⟨hk.1.1, ⟨hk.1.2.2.1, ⟨hk.1.2.2.2, hk.2⟩⟩⟩, hk.1.2.1⟩)) hg hat); have n5_ := Aside0.mk (Kd.V_afterv (ok := (fun k_ => (P0_ k_ ∨ w.heap.size ≤ k_) ∧ some k_ ≠ (u7 : Value).ownBlock ∧ some k_ ≠ (u8 : Value).ownBlock ∧ some k_ ≠ (.slice Ao18 t232.length co18 : Value).ownBlock)) (by (with_reducible repeat (first | apply Kd.V_alloc | apply Kd.V_drewN | apply Kd.V_drew)); exact Kd.V_mono HO231.out (fun _ hk => ⟨⟨hk.1.1, ⟨hk.1.2.2.1, ⟨hk.1.2.2.2, hk.2⟩⟩⟩, hk.1.2.1⟩)) hg hat); have n6_ := Aside0.mk (Kd.R_after (ok := (fun k_ => (w.heap.size ≤ k_))) (by (with_reducible repeat (first | apply Kd.R_alloc | apply Kd.R_drewN | apply Kd.R_drew)); exact Kd.R_mono HO234.out (fun _ hk => ⟨hk.1.1, hk.2⟩)) hg hat); have n7_ := Aside0.mk (hb); have n8_ := Aside0.mk (ho); clear HO_0; clear HO_7; clear HO_8; clear HL225_0; clear HL226_0; clear HO231; clear HO234; clear HB; clear HO_6; have HO_0 := n0_; have HO_7 := n1_; have HO_8 := n2_; have HL225_0 := n3_; have HL226_0 := n4_; have HO231 := n5_; have HO234 := n6_; have HB := n7_; have HO238 := n8_; clear n0_ n1_ n2_ n3_ n4_ n5_ n6_ n7_ n8_; clear ho hb hg hat) | ((with_reducible refine gate_builtin (b := .append) (xs := #[.tmp 44, .tmp 46]) rfl ?_); at_builtin; refine Kd.N_append (Kd.slice 5 (Kd.int .u8)) (w0 := w) w.heap.size rfl (.tmp 44) (.tmp 46) 39 22 (.slice none 0 0) 24 rfl Try.underlying39 info22 rfl (by decide) (by omega) u7 x7_1 y227 [.slice A225_0 y227.length c225_0] (fun k_ => (P0_ k_ ∨ w.heap.size ≤ k_) ∧ some k_ ≠ (u8 : Value).ownBlock ∧ some k_ ≠ (.slice Ao18 t232.length co18 : Value).ownBlock ∧ some k_ ≠ (v237 : Value).ownBlock) (fun k_ => ((fun k_ => (P0_ k_ ∨ w.heap.size ≤ k_) ∧ some k_ ≠ (u8 : Value).ownBlock ∧ some k_ ≠ (.slice Ao18 t232.length co18 : Value).ownBlock ∧ some k_ ≠ (v237 : Value).ownBlock)) k_ ∧ some k_ ≠ (u7 : Value).ownBlock) rfl rfl ?aP (fun _ hk => hk) ?aF ?aO ?aB ?aS ?aL ?_; (case aP => exact (Kd.FK_slice_mk (Kd.V_reads' (Kd.V_mono (ok' := (fun k_ => ((fun k_ => (P0_ k_ ∨ w.heap.size ≤ k_) ∧ some k_ ≠ (u8 : Value).ownBlock ∧ some k_ ≠ (.slice Ao18 t232.length co18 : Value).ownBlock ∧ some k_ ≠ (v237 : Value).ownBlock)) k_ ∧ some k_ ≠ (u7 : Value).ownBlock)) (HO231.out) (fun k_ hk => ⟨⟨hk.1.1, ⟨hk.1.2.2.1, ⟨hk.1.2.2.2, hk.2⟩⟩⟩, hk.1.2.1⟩))).2.1 (Kd.V_F (Kd.V_mono (ok' := (fun k_ => ((fun k_ => (P0_ k_ ∨ w.heap.size ≤ k_) ∧ some k_ ≠ (u8 : Value).ownBlock ∧ some k_ ≠ (.slice Ao18 t232.length co18 : Value).ownBlock ∧ some k_ ≠ (v237 : Value).ownBlock)) k_ ∧ some k_ ≠ (u7 : Value).ownBlock)) (HO231.out) (fun k_ hk => ⟨⟨hk.1.1, ⟨hk.1.2.2.1, ⟨hk.1.2.2.2, hk.2⟩⟩⟩, hk.1.2.1⟩))))); (case aB => exact (by repeat (first | (with_reducible first | exact HB.out | apply below_alloc | apply pw_below_drewN | apply below_drew1) | exact HB.out))); (case aF => exact (fun k_ hk => ⟨(.inr (Nat.le_trans (below_size (by repeat (first | (with_reducible first | exact HB.out | apply below_alloc | apply pw_below_drewN | apply below_drew1) | exact HB.out))) hk)), Kd.fresh' (Kd.R_lt (by (with_reducible repeat (first | apply Kd.R_alloc | apply Kd.R_drewN | apply Kd.R_drew)); exact HO_8.out)) k_ hk, Kd.fresh' (Kd.R_lt (by (with_reducible repeat (first | apply Kd.R_alloc | apply Kd.R_drewN | apply Kd.R_drew)); exact HO234.out)) k_ hk, Kd.fresh' (Kd.R_lt (by (with_reducible repeat (first | apply Kd.R_alloc | apply Kd.R_drewN | apply Kd.R_drew)); exact HO238.out)) k_ hk⟩)); (case aO => exact (by (with_reducible repeat (first | apply Kd.N_alloc | apply Kd.N_drewN | apply Kd.N_drew)); exact Kd.N_mono HO_7.out (fun _ hk => ⟨hk.1.1, ⟨hk.1.2.1, ⟨hk.1.2.2, hk.2⟩⟩⟩))); (case aS => exact (below_size (by repeat (first | (with_reducible first | exact HB.out | apply below_alloc | apply pw_below_drewN | apply below_drew1) | exact HB.out)))); (case aL => have := LMc13.out; omega); intro v240 w19 ho hb hg hat; rw [← Ny239.out] at ho; have n0_ := Aside0.mk (Kd.V_afterv (ok := (fun k_ => (P0_ k_ ∨ w.heap.size ≤ k_) ∧ some k_ ≠ (u8 : Value).ownBlock ∧ some k_ ≠ (.slice Ao18 t232.length co18 : Value).ownBlock ∧ some k_ ≠ (v237 : Value).ownBlock)) (by (with_reducible repeat (first | apply Kd.V_alloc | apply Kd.V_drewN | apply Kd.V_drew)); exact Kd.V_mono HO_0.out (fun _ hk => ⟨⟨hk.1.1, ⟨hk.1.2.2.1, ⟨hk.1.2.2.2, hk.2⟩⟩⟩, hk.1.2.1⟩)) hg hat); have n1_ := Aside0.mk (Kd.R_over' (by (with_reducible repeat (first | apply Kd.R_alloc | apply Kd.R_drewN | apply Kd.R_drew)); exact HO_8.out) (Kd.N_typed (by (with_reducible repeat (first | apply Kd.N_alloc | apply Kd.N_drewN | apply Kd.N_drew)); exact HO_7.out)) (by decide) hg); have n2_ := Aside0.mk (Kd.V_afterv (ok := (fun k_ => (P0_ k_ ∨ w.heap.size ≤ k_) ∧ some k_ ≠ (u8 : Value).ownBlock ∧ some k_ ≠ (.slice Ao18 t232.length co18 : Value).ownBlock ∧ some k_ ≠ (v237 : Value).ownBlock)) (by (with_reducible repeat (first | apply Kd.V_alloc | apply Kd.V_drewN | apply Kd.V_drew)); exact Kd.V_mono HL225_0.out (fun _ hk => ⟨⟨hk.1.1, ⟨hk.1.2.2.1, ⟨hk.1.2.2.2, hk.2⟩⟩⟩, hk.1.2.1⟩)) hg hat); have n3_ := Aside0.mk (Kd.V_afterv (ok := (fun k_ => (P0_ k_ ∨ w.heap.size ≤ k_) ∧ some k_ ≠ (u8 : Value).ownBlock ∧ some k_ ≠ (.slice Ao18 t232.length co18 : Value).ownBlock ∧ some k_ ≠ (v237 : Value).ownBlock)) (by (with_reducible repeat (first | apply Kd.V_alloc | apply Kd.V_drewN | apply Kd.V_drew)); exact Kd.V_mono HL226_0.out (fun _ hk => ⟨⟨hk.1.1, ⟨hk.1.2.2.1, ⟨hk.1.2.2.2, hk.2⟩⟩⟩, hk.1.2.1⟩)) hg hat); have n4_ := Aside0.mk (Kd.V_afterv (ok := (fun k_ => (P0_ k_ ∨ w.heap.size ≤ k_) ∧ some k_ ≠ (u8 : Value).ownBlock ∧ some k_ ≠ (.slice Ao18 t232.length co18 : Value).ownBlock ∧ some k_ ≠ (v237 : Value).ownBlock)) (by (with_reducible repeat (first | apply Kd.V_alloc | apply Kd.V_drewN | apply Kd.V_drew)); exact Kd.V_mono HO231.out (fun _ hk => ⟨⟨hk.1.1, ⟨hk.1.2.2.1, ⟨hk.1.2.2.2, hk.2⟩⟩⟩, hk.1.2.1⟩)) hg hat); have n5_ := Aside0.mk (Kd.R_over' (by (with_reducible repeat (first | apply Kd.R_alloc | apply Kd.R_drewN | apply Kd.R_drew)); exact HO234.out) (Kd.N_typed (by (with_reducible repeat (first | apply Kd.N_alloc | apply Kd.N_drewN | apply Kd.N_drew)); exact HO_7.out)) (by decide) hg); have n6_ := Aside0.mk (Kd.R_over' (by (with_reducible repeat (first | apply Kd.R_alloc | apply Kd.R_drewN | apply Kd.R_drew)); exact HO238.out) (Kd.N_typed (by (with_reducible repeat (first | apply Kd.N_alloc | apply Kd.N_drewN | apply Kd.N_drew)); exact HO_7.out)) (by decide) hg); have n7_ := Aside0.mk (hb); have n8_ := Aside0.mk (ho); clear HO_0; clear HO_8; clear HL225_0; clear HL226_0; clear HO231; clear HO234; clear HO238; clear HB; clear HO_7; have HO_0 := n0_; have HO_8 := n1_; have HL225_0 := n2_; have HL226_0 := n3_; have HO231 := n4_; have HO234 := n5_; have HO238 := n6_; have HB := n7_; have HO241 := n8_; clear n0_ n1_ n2_ n3_ n4_ n5_ n6_ n7_ n8_; clear ho hb hg hat; obtain ⟨Ao20, co20, eo20⟩ := Kd.R_slice HO238.out; subst eo20) | ((with_reducible refine gate_builtin (b := .append) (xs := #[.tmp 48, .tmp 51]) rfl ?_); at_builtin; refine Kd.R_append (Kd.int .i64) (w0 := w) w.heap.size rfl (.tmp 48) (.tmp 51) 42 3 (.int .i64 0) 8 rfl Try.underlying42 info3 rfl (by decide) (by omega) u8 x8_1 (y236.length : Int) [.int .i64 (y236.length : Int)] (fun k_ => (w.heap.size ≤ k_)) (fun _ => False) rfl rfl ?aP (fun _ hk => hk.elim) ?aF ?aO ?aB ?aS ?aL ?_; (case aP => exact rfl); (case aB => exact (by repeat (first | (with_reducible first | exact HB.out | apply below_alloc | apply pw_below_drewN | apply below_drew1) | exact HB.out))); (case aF => exact (fun k_ hk => (Nat.le_trans (below_size (by repeat (first | (with_reducible first | exact HB.out | apply below_alloc | apply pw_below_drewN | apply below_drew1) | exact HB.out))) hk))); (case aO => exact (by (with_reducible repeat (first | apply Kd.R_alloc | apply Kd.R_drewN | apply Kd.R_drew)); exact HO_8.out)); (case aS => exact (below_size (by repeat (first | (with_reducible first | exact HB.out | apply below_alloc | apply pw_below_drewN | apply below_drew1) | exact HB.out)))); (case aL => have := LMc14.out; omega); intro v243 w21 ho hb hg hat; rw [← Ny242.out] at ho; have n0_ := Aside0.mk (Kd.V_afterv (ok := (fun k_ => (P0_ k_ ∨ w.heap.size ≤ k_) ∧ some k_ ≠ (.slice Ao18 t232.length co18 : Value).ownBlock ∧ some k_ ≠ (.slice Ao20 y236.length co20 : Value).ownBlock ∧ some k_ ≠ (v240 : Value).ownBlock)) (by (with_reducible repeat (first | apply Kd.V_alloc | apply Kd.V_drewN | apply Kd.V_drew)); exact Kd.V_mono HO_0.out (fun _ hk => ⟨⟨hk.1.1, ⟨hk.1.2.2.1, ⟨hk.1.2.2.2, hk.2⟩⟩⟩, hk.1.2.1⟩)) hg hat); have n1_ := Aside0.mk (Kd.V_afterv (ok := (fun k_ => (P0_ k_ ∨ w.heap.size ≤ k_) ∧ some k_ ≠ (.slice Ao18 t232.length co18 : Value).ownBlock ∧ some k_ ≠ (.slice Ao20 y236.length co20 : Value).ownBlock ∧ some k_ ≠ (v240 : Value).ownBlock)) (by (with_reducible repeat (first | apply Kd.V_alloc | apply Kd.V_drewN | apply Kd.V_drew)); exact Kd.V_mono HL225_0.out (fun _ hk => ⟨⟨hk.1.1, ⟨hk.1.2.2.1, ⟨hk.1.2.2.2, hk.2⟩⟩⟩, hk.1.2.1⟩)) hg hat); have n2_ := Aside0.mk (Kd.V_afterv (ok := (fun k_ => (P0_ k_ ∨ w.heap.size ≤ k_) ∧ some k_ ≠ (.slice Ao18 t232.length co18 : Value).ownBlock ∧ some k_ ≠ (.slice Ao20 y236.length co20 : Value).ownBlock ∧ some k_ ≠ (v240 : Value).ownBlock)) (by (with_reducible repeat (first | apply Kd.V_alloc | apply Kd.V_drewN | apply Kd.V_drew)); exact Kd.V_mono HL226_0.out (fun _ hk => ⟨⟨hk.1.1, ⟨hk.1.2.2.1, ⟨hk.1.2.2.2, hk.2⟩⟩⟩, hk.1.2.1⟩)) hg hat); have n3_ := Aside0.mk (Kd.V_afterv (ok := (fun k_ => (P0_ k_ ∨ w.heap.size ≤ k_) ∧ some k_ ≠ (.slice Ao18 t232.length co18 : Value).ownBlock ∧ some k_ ≠ (.slice Ao20 y236.length co20 : Value).ownBlock ∧ some k_ ≠ (v240 : Value).ownBlock)) (by (with_reducible repeat (first | apply Kd.V_alloc | apply Kd.V_drewN | apply Kd.V_drew)); exact Kd.V_mono HO231.out (fun _ hk => ⟨⟨hk.1.1, ⟨hk.1.2.2.1, ⟨hk.1.2.2.2, hk.2⟩⟩⟩, hk.1.2.1⟩)) hg hat); have n4_ := Aside0.mk (Kd.R_over' (by (with_reducible repeat (first | apply Kd.R_alloc | apply Kd.R_drewN | apply Kd.R_drew)); exact HO234.out) (Kd.R_typed (by (with_reducible repeat (first | apply Kd.R_alloc | apply Kd.R_drewN | apply Kd.R_drew)); exact HO_8.out)) (by decide) hg); have n5_ := Aside0.mk (Kd.R_over' (by (with_reducible repeat (first | apply Kd.R_alloc | apply Kd.R_drewN | apply Kd.R_drew)); exact HO238.out) (Kd.R_typed (by (with_reducible repeat (first | apply Kd.R_alloc | apply Kd.R_drewN | apply Kd.R_drew)); exact HO_8.out)) (by decide) hg); have n6_ := Aside0.mk (Kd.N_afterv (ok := (fun k_ => (P0_ k_ ∨ w.heap.size ≤ k_) ∧ some k_ ≠ (.slice Ao18 t232.length co18 : Value).ownBlock ∧ some k_ ≠ (.slice Ao20 y236.length co20 : Value).ownBlock)) (by (with_reducible repeat (first | apply Kd.N_alloc | apply Kd.N_drewN | apply Kd.N_drew)); exact Kd.N_mono HO241.out (fun _ hk => ⟨⟨hk.1, ⟨hk.2.2.1, hk.2.2.2⟩⟩, hk.2.1⟩)) hg hat); have n7_ := Aside0.mk (hb); have n8_ := Aside0.mk (ho); clear HO_0; clear HL225_0; clear HL226_0; clear HO231; clear HO234; clear HO238; clear HO241; clear HB; clear HO_8; have HO_0 := n0_; have HL225_0 := n1_; have HL226_0 := n2_; have HO231 := n3_; have HO234 := n4_; have HO238 := n5_; have HO241 := n6_; have HB := n7_; have HO244 := n8_; clear n0_ n1_ n2_ n3_ n4_ n5_ n6_ n7_ n8_; clear ho hb hg hat)))
                            go_roundg kj1
                            case measure => have := HK1.out; have := HJ1.out; omega
                            case rel => exact ⟨(y236), (y239), (y242), (wrap64 (x9_1 + 1)), (by first | rfl | (simp; done) | (simp [*]; done)), H', ⟨by have := HK1.out; have := HJ1.out; omega⟩, ⟨by (with_reducible repeat (first | apply Kd.V_alloc | apply Kd.V_drewN | apply Kd.V_drew)); exact Kd.V_mono HO_0.out (fun _ hk => ⟨hk.1.1, ⟨hk.1.2.2.1, ⟨hk.1.2.2.2, hk.2⟩⟩⟩)⟩, ⟨by (with_reducible repeat (first | apply Kd.R_alloc | apply Kd.R_drewN | apply Kd.R_drew)); exact Kd.R_mono HO238.out (fun _ hk => hk.1)⟩, ⟨by (with_reducible repeat (first | apply Kd.N_alloc | apply Kd.N_drewN | apply Kd.N_drew)); exact Kd.N_mono HO241.out (fun _ hk => ⟨hk.1.1, ⟨hk.1.2.2, hk.2⟩⟩)⟩, ⟨by (with_reducible repeat (first | apply Kd.R_alloc | apply Kd.R_drewN | apply Kd.R_drew)); exact HO244.out⟩, ⟨by repeat (first | (with_reducible first | exact HB.out | apply below_alloc | apply pw_below_drewN | apply below_drew1) | exact HB.out)⟩⟩
                          · rw [if_neg c14] at H
                            exact absurd H (by simp)
                        · rw [if_neg c13] at H
                          exact absurd H (by simp)
                      · rw [if_neg c12] at H
                        exact absurd H (by simp)
                    · rw [if_neg c11] at H
                      have c11b0 : (t235 == 0) = false := beq_eq_false_iff_ne.mpr c11
                      have c11b1 : (t235 != 0) = true := bne_iff_ne.mpr c11
                      simp only [Option.some.injEq, Prod.mk.injEq] at H
                      obtain ⟨rfl, rfl, rfl, rfl⟩ := H
                      have p225 : 0 ≤ (x9_1 : Int) := of_decide_eq_true (by first | (with_reducible assumption) | assumption)
                      have q225 : x9_1 < (l0.length : Int) := of_decide_eq_true (by first | (with_reducible assumption) | assumption)
                      obtain ⟨ad225, A225_0, c225_0, e225, hx225_0, hl225_0, hi225_0⟩ := at_L1 (Kd.V_reads' HO_0.out).2.2 x9_1 p225 q225
                      cases e225
                      obtain ⟨ce225, hce225, hMe225, hcc225⟩ := Kd.V_get HO_0.out [] x9_1 p225 (by first | exact q225 | exact of_decide_eq_true (by first | (with_reducible assumption) | assumption) | (have e_ := (Kd.V_reads' HO_0.out).1; omega))
                      obtain ⟨ua225_0, uc225_0, rfl, ul225_0, ge225_0⟩ := Kd.FK_slice_open hMe225
                      have hv225_0 := hcc225 0 _ rfl
                      rw [Nat.add_zero, show ((Kd.slice 5 (Kd.int .u8))).sz = 1 from rfl, Nat.mul_one] at hv225_0
                      replace hv225_0 := Option.some.inj (hv225_0.symm.trans hx225_0)
                      injection hv225_0 with hva_ hvn_ hvc_
                      rw [hva_] at ge225_0
                      rw [hvc_] at ul225_0
                      have HL225_0 := Aside0.mk (show Kd.V (Kd.int .u8) 5 _ w.heap.size _ _ (rd_L1 l0 x9_1) from Kd.V_mk ul225_0 ge225_0)
                      clear hva_ hvn_ hvc_ ge225_0 ul225_0
                      clear hcc225 hce225
                      have HR225_0 := Aside0.mk hi225_0
                      have HC225_0 := Aside0.mk hl225_0
                      clear hi225_0 hl225_0
                      replace p225 := eq_true p225
                      replace q225 := eq_true q225
                      have p226 : 0 ≤ (x9_1 : Int) := of_decide_eq_true (by first | (with_reducible assumption) | assumption)
                      have q226 : x9_1 < (l0.length : Int) := of_decide_eq_true (by first | (with_reducible assumption) | assumption)
                      obtain ⟨ad226, A226_0, c226_0, e226, hx226_0, hl226_0, hi226_0⟩ := at_L1 (Kd.V_reads' HO_0.out).2.2 x9_1 p226 q226
                      obtain rfl : ad225 = ad226 := (by injection e226)
                      obtain ⟨ce226, hce226, hMe226, hcc226⟩ := Kd.V_get HO_0.out [] x9_1 p226 (by first | exact q226 | exact of_decide_eq_true (by first | (with_reducible assumption) | assumption) | (have e_ := (Kd.V_reads' HO_0.out).1; omega))
                      obtain ⟨ua226_0, uc226_0, rfl, ul226_0, ge226_0⟩ := Kd.FK_slice_open hMe226
                      have hv226_0 := hcc226 0 _ rfl
                      rw [Nat.add_zero, show ((Kd.slice 5 (Kd.int .u8))).sz = 1 from rfl, Nat.mul_one] at hv226_0
                      replace hv226_0 := Option.some.inj (hv226_0.symm.trans hx226_0)
                      injection hv226_0 with hva_ hvn_ hvc_
                      rw [hva_] at ge226_0
                      rw [hvc_] at ul226_0
                      have HL226_0 := Aside0.mk (show Kd.V (Kd.int .u8) 5 _ w.heap.size _ _ (rd_L1 l0 x9_1) from Kd.V_mk ul226_0 ge226_0)
                      clear hva_ hvn_ hvc_ ge226_0 ul226_0
                      clear hcc226 hce226
                      have HR226_0 := Aside0.mk hi226_0
                      have HC226_0 := Aside0.mk hl226_0
                      clear hi226_0 hl226_0
                      replace p226 := eq_true p226
                      replace q226 := eq_true q226
                      have ea_ := Option.some.inj (hx225_0.symm.trans hx226_0)
                      injection ea_ with ea_ en_ ec_
                      subst ea_
                      subst ec_
                      clear en_
                      have q22 : ((ji7) : Int) ≤ (((rd_L1 l0 x9_1).length : Int) : Int) := of_decide_eq_true (by first | (with_reducible assumption) | assumption)
                      obtain ⟨i022, hi022, _, hsz22, _⟩ := info_parts info5
                      have hroom22 : (rd_L1 l0 x9_1).length ≤ c225_0 := HC225_0.out
                      have hC22 : Kd.F (Kd.int .u8) _ _ A225_0 (rd_L1 l0 x9_1).length (rd_L1 l0 x9_1) := (Kd.V_at (base := w.heap.size) HL225_0.out).2.2
                      (try clear hcut15); have hcut22 := cut_to (P := Try.prog) 22 5 .i64 Try.underlying22 hi022 A225_0 (rd_L1 l0 x9_1).length c225_0 (ji7) (of_decide_eq_true (by first | (with_reducible assumption) | assumption)) q22 hroom22
                      have hr22 := Kd.F_take (m := ((ji7) : Int).toNat) hC22 (by omega)
                      have hy22 : y227.length = ((ji7) : Int).toNat := (by rw [Ny227.out, List.length_take]; omega)
                      rw [← Ny227.out] at hr22
                      rw [← hy22] at hcut22
                      have HO231 := Aside0.mk (show Kd.V (Kd.int .u8) 5 _ w.heap.size _ (.slice A225_0 y227.length c225_0) y227 from Kd.V_mk (by omega) hr22)
                      have HC231 := Aside0.mk (show y227.length ≤ c225_0 from by omega)
                      clear hr22 hC22 hroom22 hi022 hsz22
                      have KY22 := Aside0.mk hy22
                      clear hy22
                      replace q22 := eq_true q22
                      go_wp2_with (first | (go_at_call 13; (with_reducible refine (frame_Frame.calls kj1 (fun k_ => ((P0_ k_ ∨ w.heap.size ≤ k_) ∧ (some k_ ≠ (u6 : Value).ownBlock ∧ (some k_ ≠ (u7 : Value).ownBlock ∧ some k_ ≠ (u8 : Value).ownBlock)))) _ _ y227 t232 t235 _ ?side1 A10.out).mono ?_); (case side1 => exact HO231.out); rintro e w23 ⟨v233, rfl, ho0, hb⟩; have n0_ := Aside0.mk (Kd.V_elder' (by (with_reducible repeat (first | apply Kd.V_alloc | apply Kd.V_drewN | apply Kd.V_drew)); exact HO_0.out) (Kd.R_base ho0) hb); have n1_ := Aside0.mk (Kd.R_elder' (by (with_reducible repeat (first | apply Kd.R_alloc | apply Kd.R_drewN | apply Kd.R_drew)); exact HO_6.out) (Kd.R_base ho0) hb); have n2_ := Aside0.mk (Kd.N_elder' (by (with_reducible repeat (first | apply Kd.N_alloc | apply Kd.N_drewN | apply Kd.N_drew)); exact HO_7.out) (Kd.R_base ho0) hb); have n3_ := Aside0.mk (Kd.R_below (by (with_reducible repeat (first | apply Kd.R_alloc | apply Kd.R_drewN | apply Kd.R_drew)); exact HO_8.out) hb); have n4_ := Aside0.mk (Kd.V_elder' (by (with_reducible repeat (first | apply Kd.V_alloc | apply Kd.V_drewN | apply Kd.V_drew)); exact HL225_0.out) (Kd.R_base ho0) hb); have n5_ := Aside0.mk (Kd.V_elder' (by (with_reducible repeat (first | apply Kd.V_alloc | apply Kd.V_drewN | apply Kd.V_drew)); exact HL226_0.out) (Kd.R_base ho0) hb); have n6_ := Aside0.mk (Kd.V_elder' (by (with_reducible repeat (first | apply Kd.V_alloc | apply Kd.V_drewN | apply Kd.V_drew)); exact HO231.out) (Kd.R_base ho0) hb); have n7_ := Aside0.mk (Kd.R_lower (Kd.R_new' (Kd.R_newM (M := fun k_ => (w.heap.size ≤ k_)) (Kd.R_mono (ok' := fun k_ => True) ho0 (fun _ hk_ => trivial)) (below_size (by repeat (first | (with_reducible first | exact HB.out | apply below_alloc | apply pw_below_drewN | apply below_drew1) | exact HB.out))) (fun k_ h_ => h_)) (Kd.R_lt (by (with_reducible repeat (first | apply Kd.R_alloc | apply Kd.R_drewN | apply Kd.R_drew)); exact HO_6.out))) (below_size (by repeat (first | (with_reducible first | exact HB.out | apply below_alloc | apply pw_below_drewN | apply below_drew1) | exact HB.out)))); have n8_ := Aside0.mk (Kd.C_below (by repeat (first | (with_reducible exact HR225_0.out) | (with_reducible refine Kd.C_alloc ?_ _) | (with_reducible refine Kd.C_drewN ?_ _) | (with_reducible refine Kd.C_drew ?_) | exact HR225_0.out)) hb); have n9_ := Aside0.mk (Kd.C_below (by repeat (first | (with_reducible exact HR226_0.out) | (with_reducible refine Kd.C_alloc ?_ _) | (with_reducible refine Kd.C_drewN ?_ _) | (with_reducible refine Kd.C_drew ?_) | exact HR226_0.out)) hb); have n10_ := Aside0.mk (below_step (by repeat (first | (with_reducible first | exact HB.out | apply below_alloc | apply pw_below_drewN | apply below_drew1) | exact HB.out)) hb); clear HO_0; clear HO_6; clear HO_7; clear HO_8; clear HL225_0; clear HL226_0; clear HO231; clear HR225_0; clear HR226_0; clear HB; have HO_0 := n0_; have HO_6 := n1_; have HO_7 := n2_; have HO_8 := n3_; have HL225_0 := n4_; have HL226_0 := n5_; have HO231 := n6_; have HO234 := n7_; have HR225_0 := n8_; have HR226_0 := n9_; have HB := n10_; clear n0_ n1_ n2_ n3_ n4_ n5_ n6_ n7_ n8_ n9_ n10_; (try clear hb); (try clear hb2); (try clear hk); (try clear hi); (try clear ho0)))
                      repeat (go_quiet (first | (go_at_call 13; (with_reducible refine (frame_Frame.calls kj1 (fun k_ => ((P0_ k_ ∨ w.heap.size ≤ k_) ∧ (some k_ ≠ (u6 : Value).ownBlock ∧ (some k_ ≠ (u7 : Value).ownBlock ∧ some k_ ≠ (u8 : Value).ownBlock)))) _ _ y227 t232 t235 _ ?side1 A10.out).mono ?_); (case side1 => exact HO231.out); rintro e w23 ⟨v233, rfl, ho0, hb⟩; have n0_ := Aside0.mk (Kd.V_elder' (by (with_reducible repeat (first | apply Kd.V_alloc | apply Kd.V_drewN | apply Kd.V_drew)); exact HO_0.out) (Kd.R_base ho0) hb); have n1_ := Aside0.mk (Kd.R_elder' (by (with_reducible repeat (first | apply Kd.R_alloc | apply Kd.R_drewN | apply Kd.R_drew)); exact HO_6.out) (Kd.R_base ho0) hb); have n2_ := Aside0.mk (Kd.N_elder' (by (with_reducible repeat (first | apply Kd.N_alloc | apply Kd.N_drewN | apply Kd.N_drew)); exact HO_7.out) (Kd.R_base ho0) hb); have n3_ := Aside0.mk (Kd.R_below (by (with_reducible repeat (first | apply Kd.R_alloc | apply Kd.R_drewN | apply Kd.R_drew)); exact HO_8.out) hb); have n4_ := Aside0.mk (Kd.V_elder' (by (with_reducible repeat (first | apply Kd.V_alloc | apply Kd.V_drewN | apply Kd.V_drew)); exact HL225_0.out) (Kd.R_base ho0) hb); have n5_ := Aside0.mk (Kd.V_elder' (by (with_reducible repeat (first | apply Kd.V_alloc | apply Kd.V_drewN | apply Kd.V_drew)); exact HL226_0.out) (Kd.R_base ho0) hb); have n6_ := Aside0.mk (Kd.V_elder' (by (with_reducible repeat (first | apply Kd.V_alloc | apply Kd.V_drewN | apply Kd.V_drew)); exact HO231.out) (Kd.R_base ho0) hb); have n7_ := Aside0.mk (Kd.R_lower (Kd.R_new' (Kd.R_newM (M := fun k_ => (w.heap.size ≤ k_)) (Kd.R_mono (ok' := fun k_ => True) ho0 (fun _ hk_ => trivial)) (below_size (by repeat (first | (with_reducible first | exact HB.out | apply below_alloc | apply pw_below_drewN | apply below_drew1) | exact HB.out))) (fun k_ h_ => h_)) (Kd.R_lt (by (with_reducible repeat (first | apply Kd.R_alloc | apply Kd.R_drewN | apply Kd.R_drew)); exact HO_6.out))) (below_size (by repeat (first | (with_reducible first | exact HB.out | apply below_alloc | apply pw_below_drewN | apply below_drew1) | exact HB.out)))); have n8_ := Aside0.mk (Kd.C_below (by repeat (first | (with_reducible exact HR225_0.out) | (with_reducible refine Kd.C_alloc ?_ _) | (with_reducible refine Kd.C_drewN ?_ _) | (with_reducible refine Kd.C_drew ?_) | exact HR225_0.out)) hb); have n9_ := Aside0.mk (Kd.C_below (by repeat (first | (with_reducible exact HR226_0.out) | (with_reducible refine Kd.C_alloc ?_ _) | (with_reducible refine Kd.C_drewN ?_ _) | (with_reducible refine Kd.C_drew ?_) | exact HR226_0.out)) hb); have n10_ := Aside0.mk (below_step (by repeat (first | (with_reducible first | exact HB.out | apply below_alloc | apply pw_below_drewN | apply below_drew1) | exact HB.out)) hb); clear HO_0; clear HO_6; clear HO_7; clear HO_8; clear HL225_0; clear HL226_0; clear HO231; clear HR225_0; clear HR226_0; clear HB; have HO_0 := n0_; have HO_6 := n1_; have HO_7 := n2_; have HO_8 := n3_; have HL225_0 := n4_; have HL226_0 := n5_; have HO231 := n6_; have HO234 := n7_; have HR225_0 := n8_; have HR226_0 := n9_; have HB := n10_; clear n0_ n1_ n2_ n3_ n4_ n5_ n6_ n7_ n8_ n9_ n10_; (try clear hb); (try clear hb2); (try clear hk); (try clear hi); (try clear ho0))); try go_wp2_with (first | (go_at_call 13; (with_reducible refine (frame_Frame.calls kj1 (fun k_ => ((P0_ k_ ∨ w.heap.size ≤ k_) ∧ (some k_ ≠ (u6 : Value).ownBlock ∧ (some k_ ≠ (u7 : Value).ownBlock ∧ some k_ ≠ (u8 : Value).ownBlock)))) _ _ y227 t232 t235 _ ?side1 A10.out).mono ?_); (case side1 => exact HO231.out); rintro e w23 ⟨v233, rfl, ho0, hb⟩; have n0_ := Aside0.mk (Kd.V_elder' (by (with_reducible repeat (first | apply Kd.V_alloc | apply Kd.V_drewN | apply Kd.V_drew)); exact HO_0.out) (Kd.R_base ho0) hb); have n1_ := Aside0.mk (Kd.R_elder' (by (with_reducible repeat (first | apply Kd.R_alloc | apply Kd.R_drewN | apply Kd.R_drew)); exact HO_6.out) (Kd.R_base ho0) hb); have n2_ := Aside0.mk (Kd.N_elder' (by (with_reducible repeat (first | apply Kd.N_alloc | apply Kd.N_drewN | apply Kd.N_drew)); exact HO_7.out) (Kd.R_base ho0) hb); have n3_ := Aside0.mk (Kd.R_below (by (with_reducible repeat (first | apply Kd.R_alloc | apply Kd.R_drewN | apply Kd.R_drew)); exact HO_8.out) hb); have n4_ := Aside0.mk (Kd.V_elder' (by (with_reducible repeat (first | apply Kd.V_alloc | apply Kd.V_drewN | apply Kd.V_drew)); exact HL225_0.out) (Kd.R_base ho0) hb); have n5_ := Aside0.mk (Kd.V_elder' (by (with_reducible repeat (first | apply Kd.V_alloc | apply Kd.V_drewN | apply Kd.V_drew)); exact HL226_0.out) (Kd.R_base ho0) hb); have n6_ := Aside0.mk (Kd.V_elder' (by (with_reducible repeat (first | apply Kd.V_alloc | apply Kd.V_drewN | apply Kd.V_drew)); exact HO231.out) (Kd.R_base ho0) hb); have n7_ := Aside0.mk (Kd.R_lower (Kd.R_new' (Kd.R_newM (M := fun k_ => (w.heap.size ≤ k_)) (Kd.R_mono (ok' := fun k_ => True) ho0 (fun _ hk_ => trivial)) (below_size (by repeat (first | (with_reducible first | exact HB.out | apply below_alloc | apply pw_below_drewN | apply below_drew1) | exact HB.out))) (fun k_ h_ => h_)) (Kd.R_lt (by (with_reducible repeat (first | apply Kd.R_alloc | apply Kd.R_drewN | apply Kd.R_drew)); exact HO_6.out))) (below_size (by repeat (first | (with_reducible first | exact HB.out | apply below_alloc | apply pw_below_drewN | apply below_drew1) | exact HB.out)))); have n8_ := Aside0.mk (Kd.C_below (by repeat (first | (with_reducible exact HR225_0.out) | (with_reducible refine Kd.C_alloc ?_ _) | (with_reducible refine Kd.C_drewN ?_ _) | (with_reducible refine Kd.C_drew ?_) | exact HR225_0.out)) hb); have n9_ := Aside0.mk (Kd.C_below (by repeat (first | (with_reducible exact HR226_0.out) | (with_reducible refine Kd.C_alloc ?_ _) | (with_reducible refine Kd.C_drewN ?_ _) | (with_reducible refine Kd.C_drew ?_) | exact HR226_0.out)) hb); have n10_ := Aside0.mk (below_step (by repeat (first | (with_reducible first | exact HB.out | apply below_alloc | apply pw_below_drewN | apply below_drew1) | exact HB.out)) hb); clear HO_0; clear HO_6; clear HO_7; clear HO_8; clear HL225_0; clear HL226_0; clear HO231; clear HR225_0; clear HR226_0; clear HB; have HO_0 := n0_; have HO_6 := n1_; have HO_7 := n2_; have HO_8 := n3_; have HL225_0 := n4_; have HL226_0 := n5_; have HO231 := n6_; have HO234 := n7_; have HR225_0 := n8_; have HR226_0 := n9_; have HB := n10_; clear n0_ n1_ n2_ n3_ n4_ n5_ n6_ n7_ n8_ n9_ n10_; (try clear hb); (try clear hb2); (try clear hk); (try clear hi); (try clear ho0))))
                      refine bodyPost_ret (results_list (rs := [.tmp 2, .tmp 3, .tmp 4, .tmp 5]) rfl (by simp) (.tmp (.tmp (.tmp (.tmp .nil))))) rfl ?_
                      exact ⟨_, _, _, by first | rfl | (simp [errW_none, errW_some] <;> rfl) | (simp only [← hji7]; first | rfl | (simp [errW_none, errW_some] <;> rfl)) | (simp [*, errW_none, errW_some] <;> rfl), by first | exact Kd.R_nil _ _ _ _ _ | exact Kd.N_nil _ _ _ _ _ | exact Kd.V_nil _ _ _ _ _ | exact Kd.Q_nil _ _ _ _ _ | exact Kd.S_nil _ _ _ _ _, by first | exact Kd.S_nil _ _ _ _ _ | exact Kd.N_nil _ _ _ _ _ | exact Kd.V_nil _ _ _ _ _ | exact Kd.Q_nil _ _ _ _ _ | exact Kd.R_nil _ _ _ _ _, by first | exact Kd.R_nil _ _ _ _ _ | exact Kd.N_nil _ _ _ _ _ | exact Kd.V_nil _ _ _ _ _ | exact Kd.Q_nil _ _ _ _ _ | exact Kd.S_nil _ _ _ _ _, by repeat (first | (with_reducible first | exact HB.out | apply below_alloc | apply pw_below_drewN | apply below_drew1) | exact HB.out)⟩
                  · rw [if_neg c9] at H
                    exact absurd H (by simp)
                · rw [if_neg c8] at H
                  exact absurd H (by simp)
              · rw [if_neg c6] at H
                exact absurd H (by simp)
            · rw [if_neg c5] at H
              exact absurd H (by simp)
          · replace c4 := Bool.eq_false_iff.mpr c4
            subst c4
            have H1 : (some (x6_1, x7_1, x8_1, true)) = some (r1, r2, r3, r4) := by rw [if_neg (show ¬ (false = true) by decide)] at H; exact H
            clear H
            have H := H1
            clear H1
            simp only [Option.some.injEq, Prod.mk.injEq] at H
            obtain ⟨rfl, rfl, rfl, rfl⟩ := H
            go_wp2
            repeat (go_quiet (fail); try go_wp2)
            refine bodyPost_ret (results_list (rs := [.tmp 2, .tmp 3, .tmp 4, .tmp 5]) rfl (by simp) (.tmp (.tmp (.tmp (.tmp .nil))))) rfl ?_
            exact ⟨_, _, _, by first | rfl | (simp [errW_none, errW_some] <;> rfl) | (simp [*, errW_none, errW_some] <;> rfl), by (with_reducible repeat (first | apply Kd.R_alloc | apply Kd.R_drewN | apply Kd.R_drew)); exact HO_6.out, by (with_reducible repeat (first | apply Kd.N_alloc | apply Kd.N_drewN | apply Kd.N_drew)); exact HO_7.out, by (with_reducible repeat (first | apply Kd.R_alloc | apply Kd.R_drewN | apply Kd.R_drew)); exact HO_8.out, by repeat (first | (with_reducible first | exact HB.out | apply below_alloc | apply pw_below_drewN | apply below_drew1) | exact HB.out)⟩

/-! ### scriptoriumlaw04_FrameStops: function 10 (a leaf, by hand) -/
/-- The records that bytes begin with, one by one. -/
def recs (k : Nat) : Nat → List Int → Option (List (List Int))
  | 0, _ => none
  | m + 1, l => (frame_Next.f k l).bind fun t => if t.2.2 = 0 then (if 0 < t.2.1 ∧ t.2.1 ≤ (l.length : Int) then (recs k m (l.drop t.2.1.toNat)).bind fun r => some (t.1 :: r) else none) else some []
def lenOf : Value → Nat
  | .slice _ n _ => n
  | _ => 0
section
attribute [local go_sem] Oper.semAt_some
set_option maxHeartbeats 8000000 in
set_option maxRecDepth 100000 in
theorem all_iterates (k m : Nat) (A0 : Option Addr) (c0 : Nat) (l0 : List Int) (r : List (List Int)) (w0 w : World) (hr0 : Kd.C (Kd.int .u8) w0 A0 l0.length l0) (hc0 : l0.length ≤ c0) (h : recs k m l0 = some r)
    (hB : Below w0.heap.size w0 w) (gb : Nat) (hcell : w.cell? ⟨gb, 0, none⟩ = some (.slice A0 l0.length c0)) :
    Iterates (α := Value × List Int) Try.prog 34 #[.pointer (some ⟨gb, 0, none⟩)] (fun x => x.1) (fun x b W => Kd.R (Kd.int .u8) 5 W b (fun _ => True) x.1 x.2) w0.heap.size
      (fun xs => xs.map Prod.snd = r) (fun pre => ∃ rest, r = pre.map Prod.snd ++ rest) w := by
  intro l J Jx W hW hY h0
  have HR0 := Aside0.mk hr0
  have HRC := Aside0.mk h
  have HC0 := Aside0.mk hc0
  have HB0 := Aside0.mk (hB.trans (hW.mono hB.size))
  have hc := (hW.cell (World.block_lt_of_cell? w _ hcell)).trans hcell
  have HY := Aside0.mk hY
  clear hr0 h hc0 hB hcell hW hY
  refine callsIn_of_wp Try.func34 rfl trivial ?_ rfl
  simp only [Try.ntmps34, List.size_toArray, List.length_cons, List.length_nil, Nat.reduceAdd, Nat.reduceSub, Array.replicate_succ, Array.replicate_zero, List.push_toArray, List.append_toArray, List.nil_append, List.cons_append]
  gi_wp2
  gi_loopw [3] (fun p wr => ∃ (pre : List (Value × List Int)) (rest : List (List Int)) (A : Option Addr) (c : Nat) (li : List Int) (m' : Nat), p = .slice A li.length c ∧ Aside0 (recs k m' li = some rest) ∧ Aside0 (r = pre.map Prod.snd ++ rest) ∧ Aside0 (Kd.C (Kd.int .u8) w0 A li.length li) ∧ Aside0 (li.length ≤ c) ∧ Aside0 (J pre wr) ∧ Aside0 (Below w0.heap.size w0 wr))
    (fun p _ => lenOf p)
  case atStart => exact ⟨[], r, A0, c0, l0, m, rfl, HRC, ⟨rfl⟩, HR0, HC0, ⟨h0⟩, HB0⟩
  case round =>
    clear hc HR0 HRC HC0 HB0 h0
    obtain ⟨pre, rest, A, c, li, m', rfl, HRC, HRE, HR, HC, HJ, HB⟩ := hrel
    cases m' with
    | zero => exact absurd HRC.out (by simp [recs])
    | succ m' =>
      have H := HRC.out
      clear HRC
      simp only [recs] at H
      obtain ⟨⟨p1, n1, e1⟩, hN, H⟩ := Option.bind_eq_some_iff.mp H
      dsimp only at H
      have HN := Aside0.mk hN
      clear hN
      by_cases c1 : e1 = 0
      · rw [if_pos c1] at H
        subst c1
        by_cases c2 : 0 < n1 ∧ n1 ≤ (li.length : Int)
        · rw [if_pos c2] at H
          obtain ⟨r1, hr1, H⟩ := Option.bind_eq_some_iff.mp H
          obtain rfl := Option.some.inj H
          have HR1 := Aside0.mk hr1
          have HP := Aside0.mk c2
          clear hr1 c2 H
          gi_wp2_with (refine ⟨trivial, rfl, ?_⟩; gi_at_call 18; refine (callsIn_wide.2 (frame_Next.calls k A c li p1 n1 0 _ (Kd.C_below HR.out HB.out) HC.out HN.out)).mono ?_; rintro e w2 ⟨v, rfl, ho, hb⟩; obtain ⟨fn, tmps, assign, body, hy, hRD⟩ := HY.out pre (v, p1) wr w2 HJ.out hb ho ⟨r1, by rw [HRE.out]; simp⟩; dsimp only at hy)
          refine ⟨rfl, ?_⟩
          refine hRD.mono ?_
          have hb1 := hb
          obtain ⟨i0, hi, hz0, hz1, hz2⟩ := info_parts info5
          obtain ⟨A', hcut, hA', hC'⟩ := print_drop_of (P := Try.prog) (Value.int .u8) 0 22 5 .i64 Try.underlying22 hi hz1 A c li n1 (by have := HP.out; omega) HP.out.2 HC.out
          have HCC := Aside0.mk hC'
          have HAA := Aside0.mk (Kd.C_of_reads (h1 := fun _ => rfl) (hA' _ (Kd.reads_of_C HR.out)))
          clear hA' hC' hi hz0 hz1 hz2
          rintro e W3 (⟨rfl, hJ3, hk3⟩ | ⟨rfl, hJx3⟩)
          · have HB3 := Aside0.mk ((HB.out.trans (hb1.mono HB.out.size)).trans hk3)
            have HJ3 := Aside0.mk hJ3
            clear hk3 hJ3 hb hb1 ho hy
            gi_wp2
            go_roundw
            case rel => exact ⟨pre ++ [(v, p1)], r1, A', c - n1.toNat, li.drop n1.toNat, m', by rw [List.length_drop], HR1, ⟨by rw [HRE.out]; simp⟩, HAA, HCC, HJ3, HB3⟩
            case measure => have h1 := HP.out; simp [lenOf]; omega
          · clear hb hb1 ho hy
            gi_wp2
            refine bodyPost_ret (results_none rfl _ _ _) rfl ?_
            exact ⟨⟨_, rfl⟩, .inr ⟨pre ++ [(v, p1)], W3, ⟨r1, by rw [HRE.out]; simp⟩, hJx3, Below.refl _ _⟩⟩
        · rw [if_neg c2] at H
          exact absurd H (by simp)
      · rw [if_neg c1] at H
        obtain rfl := Option.some.inj H
        have q1 : (e1 != 0) = true := bne_iff_ne.mpr c1
        clear c1 H
        gi_wp2_with (refine ⟨trivial, rfl, ?_⟩; gi_at_call 18; refine (callsIn_wide.2 (frame_Next.calls k A c li p1 n1 e1 _ (Kd.C_below HR.out HB.out) HC.out HN.out)).mono ?_; rintro e w2 ⟨v, rfl, ho, hb⟩)
        refine ⟨fun _ h => (by cases h), ?_⟩
        gi_wp2
        refine bodyPost_ret (results_none rfl _ _ _) rfl ?_
        exact ⟨⟨_, rfl⟩, .inl ⟨pre, wr, by rw [HRE.out]; simp, HJ.out, hb⟩⟩
end
set_option maxHeartbeats 8000000 in
set_option maxRecDepth 100000 in
theorem frame_All.calls (A0 : Option Addr) (n c0 : Nat) (w : World) : Calls Try.prog 20 #[.slice A0 n c0] w fun e w' => e = .returned (.func (.func 34) #[] #[.pointer (some ⟨w.heap.size, 0, none⟩)]) ∧ w' = w.alloc (.cells #[.slice A0 n c0] 22) := by
  go_enter Try.func20, Try.ntmps20
  go_wp2
  go_ret
  exact ⟨rfl, rfl⟩
theorem run_equalIn_func {P : Program} (d : Nat) (t : TypeId) (ps rs : Array TypeId) (v : Bool) (h : P.underlying t = some (.func ps rs v)) (f : Nat) (ys : Array Value) (W : World) : (Op.equalIn (d + 1) t (.func (.func f) #[] ys) .nilFunc).run P W = .ok false W := by
  simp [Op.equalIn, run_underlying h]
theorem not_nil_func (f : Nat) (ys : Array Value) (W : World) : (binOp .eql 37 (.func (.func f) #[] ys) .nilFunc).run Try.prog W = .ok (.bool false) W := by
  have h : (Op.equal 37 (.func (.func f) #[] ys) .nilFunc).run Try.prog W = .ok false W := run_equalIn_func 9999 _ _ _ _ Try.underlying37 f ys W
  simp only [binOp]
  simp [h]
theorem results_cell_bool {P : Program} {fn : Func} {p : Tmp} {ty : TypeId} (h : fn.results = #[.cell p ty]) (tmps : Array Value) (w : World) (g : Nat) (b : Bool)
    (hp : tmps.getD p undef = .pointer (some ⟨g, 0, none⟩)) (hu : P.underlying ty = some .bool) (hc : w.cell? ⟨g, 0, none⟩ = some (.bool b)) : (results fn tmps).run P w = .ok (.bool b) w := by
  have hp' : tmps[p]?.getD undef = .pointer (some ⟨g, 0, none⟩) := by simpa using hp
  simp [results, h, hp', asAddr, loadVar, isAgg, run_underlying hu, hc, go_sem]
/-- What the walk leans on: what was put is told; a row is the same as itself. -/
def scriptoriumlaw04_FrameStops.f (k : Nat) (l0 : List (List Int)) (a1 : Int) : Option Bool :=
  (scriptoriumlaw04_put.f k l0).bind fun q => (scriptoriumref00_Bring.f a1 (wrap64 ((q.2.1.length : Int) + 1))).bind fun n =>
    if scriptoriumlaw04_works.f k = some true ∧ recs k k q.1 = some q.2.1 ∧ q.2.2.2 = true ∧ (∀ p ∈ q.2.1, scriptoriumref00_EqBytes.f k p p = some true) ∧ 0 ≤ n ∧ n ≤ (q.2.1.length : Int) ∧ q.2.1.length < 1000000 then some true else none
section
attribute [local go_sem] Oper.semAt_some
set_option maxHeartbeats 16000000 in
set_option maxRecDepth 100000 in
theorem scriptoriumlaw04_FrameStops.calls (k : Nat) (A0 : Option Addr) (c0 : Nat) (l0 : List (List Int)) (a1 : Int) (r : Bool) (w : World) (hr0 : Kd.C (Kd.slice 5 (Kd.int .u8)) w A0 l0.length l0) (hc0 : l0.length ≤ c0) (h : scriptoriumlaw04_FrameStops.f k l0 a1 = some r) (hrt : r = true) :
    Calls Try.prog 10 #[.slice A0 l0.length c0, .int .i64 a1] w fun e w' => e = .returned (.bool r) ∧ Below w.heap.size w w' := by
  subst hrt
  obtain ⟨⟨b, want, ends, is⟩, hput, h⟩ := Option.bind_eq_some_iff.mp h
  obtain ⟨n, hbr, h⟩ := Option.bind_eq_some_iff.mp h
  dsimp only at hbr h
  have hc : scriptoriumlaw04_works.f k = some true ∧ recs k k b = some want ∧ is = true ∧ (∀ p ∈ want, scriptoriumref00_EqBytes.f k p p = some true) ∧ 0 ≤ n ∧ n ≤ (want.length : Int) ∧ want.length < 1000000 := by
    by_cases hc : scriptoriumlaw04_works.f k = some true ∧ recs k k b = some want ∧ is = true ∧ (∀ p ∈ want, scriptoriumref00_EqBytes.f k p p = some true) ∧ 0 ≤ n ∧ n ≤ (want.length : Int) ∧ want.length < 1000000
    · exact hc
    · rw [if_neg hc] at h
      exact absurd h (by simp)
  obtain ⟨hwk, hrec, rfl, heq, hn0, hn1, hwl⟩ := hc
  obtain ⟨m, rfl⟩ := Int.eq_ofNat_of_zero_le hn0
  have hm1 : m ≤ want.length := by omega
  have HR0 := Aside0.mk hr0
  have HC0 := Aside0.mk hc0
  have HPUT := Aside0.mk hput
  have HBR := Aside0.mk hbr
  have HWK := Aside0.mk hwk
  have HRC := Aside0.mk hrec
  have HEQ := Aside0.mk heq
  have HM := Aside0.mk hm1
  have HWL := Aside0.mk hwl
  clear hr0 hc0 h hput hbr hwk hrec heq hn0 hn1 hm1 hwl
  refine (callsIn_wide (n := 0)).1 ?_
  refine callsIn_of_wp_marks Try.func10 rfl trivial ?_ rfl
  simp only [Try.ntmps10, List.size_toArray, List.length_cons, List.length_nil, Nat.reduceAdd, Nat.reduceSub, Array.replicate_succ, Array.replicate_zero, List.push_toArray, List.append_toArray, List.nil_append, List.cons_append]
  gi_wp2_with (first | (refine ⟨trivial, rfl, ?_⟩; gi_at_call 16; refine (callsIn_wide.2 (scriptoriumlaw04_works.calls k true _ HWK.out)).mono ?_; rintro e w1 ⟨rfl, hb1⟩; have HB1 := Aside0.mk (below_step (below_alloc (Below.refl _ w) _) hb1); have BR1 := Aside0.mk (blk_below (g := w.heap.size) (o := .cells #[.bool false] 4 (0, 0)) (World.alloc_heap_new w _) hb1); clear hb1) | (refine ⟨trivial, rfl, ?_⟩; gi_at_call 23; refine (callsIn_wide.2 (scriptoriumlaw04_put.calls k (fun _ => True) A0 c0 l0 b want ends true _ ?sV HPUT.out)).mono ?_; (case sV => exact Kd.V_mono (Kd.V_mk HC0.out (Kd.C_F (Kd.heap_slice 5 (Kd.heap_int .u8)) (Kd.C_below HR0.out HB1.out))) (fun _ _ => trivial)); rintro e w2 ⟨vb, vw, ve, rfl, hRb, hNw, hRe, hb2⟩; have HRB := Aside0.mk hRb; have HNW := Aside0.mk hNw; have HB2 := Aside0.mk (below_step HB1.out hb2); have BR2 := Aside0.mk (blk_below BR1.out hb2); clear hRb hNw hRe hb2; obtain ⟨Ab, cb, eb⟩ := Kd.R_slice HRB.out; subst eb; obtain ⟨Aw, cw, ew⟩ := Kd.N_slice HNW.out; subst ew) | (refine ⟨trivial, rfl, ?_⟩; gi_at_call 17; refine (callsIn_wide.2 (scriptoriumref00_Bring.calls a1 (wrap64 ((want.length : Int) + 1)) (m : Int) _ HBR.out)).mono ?_; rintro e w3 ⟨rfl, ⟨nd, rfl⟩⟩) | (refine ⟨trivial, rfl, ?_⟩; gi_at_call 20; refine (callsIn_wide.2 (frame_All.calls Ab b.length cb _)).mono ?_; rintro e w4 ⟨rfl, rfl⟩))
  have hlt2 : w.heap.size < w2.heap.size := (Array.getElem?_eq_some_iff.1 BR2.out).1
  have HLT2 := Aside0.mk hlt2
  have HCB := Aside0.mk (Kd.R_reads' HRB.out).2.2
  have HCBL := Aside0.mk (Kd.R_reads' HRB.out).2.1
  have HCW := Aside0.mk (Kd.N_reads' HNW.out).2.2
  clear hlt2
  refine wpIn_loop (fun a W => ∃ (i : Nat) (ds : List Deferred) (u12 u13 u30 u31 u32 u33 u34 u35 u36 u37 u38 u39 u40 u41 u42 u43 u44 u45 u46 u47 u48 u49 u50 u51 : Value), a = { tmps := #[.slice A0 l0.length c0, .int .i64 a1, undef, undef, .pointer (some ⟨w.heap.size, 0, none⟩), .slice Ab b.length cb, .pointer (some ⟨w2.heap.size, 0, none⟩), ve, .bool true, .pointer (some ⟨w2.heap.size + 1, 0, none⟩), .func (.func 34) #[] #[.pointer (some ⟨w2.heap.size + 1 + 1, 0, none⟩)], .int .i64 (i : Int), u12, u13, .bool true, .bool false, .tuple #[.slice Ab b.length cb, .slice Aw want.length cw, ve, .bool true], .slice A0 l0.length c0, .tuple #[.slice Ab b.length cb, .slice Aw want.length cw, ve, .bool true], .slice Ab b.length cb, .slice Aw want.length cw, ve, .bool true, .int .i64 a1, .slice Aw want.length cw, .int .i64 (want.length : Int), .int .i64 (wrap64 ((want.length : Int) + 1)), .int .i64 (m : Int), .slice Ab b.length cb, .func (.func 34) #[] #[.pointer (some ⟨w2.heap.size + 1 + 1, 0, none⟩)], u30, u31, u32, u33, u34, u35, u36, u37, u38, u39, u40, u41, u42, u43, u44, u45, u46, u47, u48, u49, u50, u51], defers := ds } ∧ Aside0 (i ≤ 2 ∧ ds.length = i) ∧ Aside0 (∀ d ∈ ds, ∃ D, d = { target := .collected D, args := #[] } ∧ w2.heap.size ≤ D ∧ W.heap[D]? = some (.deferred (some []))) ∧ Aside0 (ds.Pairwise (fun d e => d.target ≠ e.target)) ∧ Aside0 (W.heap[w2.heap.size]? = some (.cells #[.slice Aw want.length cw] 39 (0, 0))) ∧ Aside0 (W.heap[w2.heap.size + 1]? = some (.cells #[.int .i64 (m : Int)] 3 (0, 0))) ∧ Aside0 (W.heap[w2.heap.size + 1 + 1]? = some (.cells #[.slice Ab b.length cb] 22 (0, 0))) ∧ Aside0 (Below w2.heap.size w2 W)) (fun a _ => 2 - (intOf (a.tmps.getD 11 undef)).toNat) ?start ?round
  case start =>
    obtain ⟨w5, hw5⟩ : ∃ W, ((((w2.alloc (Obj.cells #[Value.slice Aw want.length cw] 39)).drewN nd).alloc (Obj.cells #[Value.int IntKind.i64 (m : Int)] 3)).alloc (Obj.cells #[Value.slice Ab b.length cb] 22)) = W := ⟨_, rfl⟩
    rw [hw5]
    refine ⟨0, [], _, _, _, _, _, _, _, _, _, _, _, _, _, _, _, _, _, _, _, _, _, _, _, _, rfl, ⟨by omega, rfl⟩, ⟨fun d hd => by cases hd⟩, ⟨List.Pairwise.nil⟩, ⟨?_⟩, ⟨?_⟩, ⟨?_⟩, ⟨?_⟩⟩
    · rw [← hw5]
      refine (Below.heap_alloc _ _ _ (by simp; omega)).trans ((Below.heap_alloc _ _ _ (by simp)).trans ?_)
      exact World.alloc_heap_new w2 _
    · rw [← hw5]
      refine (Below.heap_alloc _ _ _ (by simp)).trans ?_
      have h := World.alloc_heap_new ((w2.alloc (Obj.cells #[Value.slice Aw want.length cw] 39)).drewN nd) (Obj.cells #[Value.int IntKind.i64 (m : Int)] 3)
      rw [show ((w2.alloc (Obj.cells #[Value.slice Aw want.length cw] 39)).drewN nd).heap.size = w2.heap.size + 1 by simp] at h
      exact h
    · rw [← hw5]
      have h := World.alloc_heap_new (((w2.alloc (Obj.cells #[Value.slice Aw want.length cw] 39)).drewN nd).alloc (Obj.cells #[Value.int IntKind.i64 (m : Int)] 3)) (Obj.cells #[Value.slice Ab b.length cb] 22)
      rw [show (((w2.alloc (Obj.cells #[Value.slice Aw want.length cw] 39)).drewN nd).alloc (Obj.cells #[Value.int IntKind.i64 (m : Int)] 3)).heap.size = w2.heap.size + 1 + 1 by simp] at h
      exact h
    · rw [← hw5]
      exact below_alloc (below_alloc (pw_below_drewN (below_alloc (Below.refl _ _) _) _) _) _
  case round =>
    rintro a W ⟨i, ds, u12, u13, u30, u31, u32, u33, u34, u35, u36, u37, u38, u39, u40, u41, u42, u43, u44, u45, u46, u47, u48, u49, u50, u51, rfl, HI, HDS, HPW, HBW, HBN, HBC, HB⟩
    by_cases hi : i < 2
    · have hd : decide ((i : Int) < 2) = true := decide_eq_true (by omega)
      gi_wp2
      have HI2 := Aside0.mk hi
      clear hi hd
      have hwlt : w2.heap.size + 1 + 1 < W.heap.size := (Array.getElem?_eq_some_iff.1 HBC.out).1
      have HWLT := Aside0.mk hwlt
      obtain ⟨W', hW'⟩ : ∃ V, W.alloc (.cells #[.int .i64 0] 3) = V := ⟨_, rfl⟩
      have hsz : W'.heap.size = W.heap.size + 1 := by rw [← hW']; simp
      have hbe : Below W.heap.size W W' := by rw [← hW']; exact below_alloc (Below.refl _ _) _
      have hat : W'.heap[W.heap.size]? = some (.cells #[.int .i64 0] 3 (0, 0)) := by rw [← hW']; exact World.alloc_heap_new W _
      have hcap : W'.cell? ⟨w2.heap.size + 1 + 1, 0, none⟩ = some (.slice Ab b.length cb) := (blk_cell ((hbe.block _ hwlt).trans HBC.out) 0).trans rfl
      rw [hW']
      clear hW' hwlt
      refine range_over (α := Value × List Int) (gf := 34) (lb := #[.pointer (some ⟨w2.heap.size + 1 + 1, 0, none⟩)]) rfl (enters_of Try.func34 (by kernel_rfl) rfl)
        (all_iterates k k Ab cb b want w2 W' HCB.out HCBL.out HRC.out (HB.out.trans (hbe.mono (by have := HWLT.out; omega))) _ hcap) (by have := HWLT.out; omega) 35 rfl
        (fun x b W o hb h => Kd.R_step (Kd.R_mono (Kd.R_bound h) (ok' := fun k_ => b ≤ k_) (fun _ hk => hk.2.1)) (fun k_ hk _ => World.putObj_heap_other (by omega)) |> fun h => Kd.R_mono h (fun _ _ => trivial))
        (fun pre V => V.heap[W.heap.size]? = some (.cells #[.int .i64 (pre.length : Int)] 3 (0, 0)) ∧ pre.length ≤ m ∧ Below W.heap.size W V)
        (fun c pre V => c = .exit 2 ∧ V.heap[W.heap.size]? = some (.cells #[.int .i64 (m : Int)] 3 (0, 0)) ∧ Below W.heap.size W V)
        ?hI ?hIx ?h0 (fun x => { tmps := #[.slice A0 l0.length c0, .int .i64 a1, undef, undef, .pointer (some ⟨w.heap.size, 0, none⟩), .slice Ab b.length cb, .pointer (some ⟨w2.heap.size, 0, none⟩), ve, .bool true, .pointer (some ⟨w2.heap.size + 1, 0, none⟩), .func (.func 34) #[] #[.pointer (some ⟨w2.heap.size + 1 + 1, 0, none⟩)], .int .i64 (i : Int), .pointer (some ⟨W.heap.size, 0, none⟩), x.1, .bool true, .bool false, .tuple #[.slice Ab b.length cb, .slice Aw want.length cw, ve, .bool true], .slice A0 l0.length c0, .tuple #[.slice Ab b.length cb, .slice Aw want.length cw, ve, .bool true], .slice Ab b.length cb, .slice Aw want.length cw, ve, .bool true, .int .i64 a1, .slice Aw want.length cw, .int .i64 (want.length : Int), .int .i64 (wrap64 ((want.length : Int) + 1)), .int .i64 (m : Int), .slice Ab b.length cb, .func (.func 34) #[] #[.pointer (some ⟨w2.heap.size + 1 + 1, 0, none⟩)], .int .i64 (i : Int), .bool true, u32, u33, .func (.func 34) #[] #[.pointer (some ⟨w2.heap.size + 1 + 1, 0, none⟩)], x.1, u36, u37, u38, u39, u40, u41, u42, u43, u44, u45, u46, u47, u48, u49, u50, u51], defers := [] }) ?assign ?body ?done ?stop
      case hI =>
        rintro pre V V' ⟨h1, h2, h3⟩ ho
        have hlt : W.heap.size < V.heap.size := (Array.getElem?_eq_some_iff.1 h1).1
        exact ⟨(ho.block _ hlt (by omega)).trans h1, h2, h3.trans (ho.below (by omega) (by omega))⟩
      case hIx =>
        rintro c pre V V' ⟨hc, h1, h3⟩ ho
        have hlt : W.heap.size < V.heap.size := (Array.getElem?_eq_some_iff.1 h1).1
        exact ⟨hc, (ho.block _ hlt (by omega)).trans h1, h3.trans (ho.below (by omega) (by omega))⟩
      case h0 =>
        intro V hV
        exact ⟨(hV.block _ (by omega)).trans hat, Nat.zero_le _, hbe.trans (hV.mono (by omega))⟩
      case assign =>
        intro l x V K hK
        gi_wp2
        exact hK
      case body =>
        rintro l pre ⟨xv, xl⟩ V0 V ⟨h1, h2, h3⟩ ho hlt hr ⟨rest, hre⟩
        dsimp only at hr ⊢
        obtain ⟨Ax, cx, ex⟩ := Kd.R_slice hr
        subst ex
        have hg0 : W.heap.size < V0.heap.size := (Array.getElem?_eq_some_iff.1 h1).1
        have hgV : V.heap[W.heap.size]? = some (.cells #[.int .i64 (pre.length : Int)] 3 (0, 0)) := (ho.block _ hg0 (by omega)).trans h1
        have hBV : Below W.heap.size W V := h3.trans (ho.below (by omega) (by omega))
        have hB2V : Below w2.heap.size w2 V := HB.out.trans (hBV.mono (by have := HWLT.out; omega))
        have hpl : pre.length < want.length := by
          have h9 := congrArg List.length hre
          simp only [List.length_map, List.length_append, List.length_cons, List.length_nil] at h9
          omega
        have hwx : rd_L1 want (pre.length : Int) = xl := by
          have e9 : want[pre.length]? = some xl := by
            rw [hre, List.map_append, List.append_assoc, List.getElem?_append_right (by simp)]
            simp
          simp [rd_L1, List.getD_eq_getElem?_getD, e9]
        obtain ⟨ad, Ae, ce, eAw, hce, hle, hCe⟩ := at_L1 (Kd.C_below HCW.out hB2V) (pre.length : Int) (by omega) (by omega)
        rw [hwx] at hce hle hCe
        rw [Int.toNat_natCast] at hce
        subst eAw
        have hcg : V.cell? ⟨W.heap.size, 0, none⟩ = some (.int .i64 (pre.length : Int)) := (blk_cell hgV 0).trans rfl
        have hfg := blk_frozen hgV 0
        have hcn : V.cell? ⟨w2.heap.size + 1, 0, none⟩ = some (.int .i64 (m : Int)) := (blk_cell ((hBV.block _ (by have := HWLT.out; omega)).trans HBN.out) 0).trans rfl
        have hcw : V.cell? ⟨w2.heap.size, 0, none⟩ = some (.slice (some ad) want.length cw) := (blk_cell ((hBV.block _ (by have := HWLT.out; omega)).trans HBW.out) 0).trans rfl
        have HCX := Aside0.mk (Kd.R_reads' hr).2.2
        have HLX := Aside0.mk (Kd.R_reads' hr).2.1
        have HCE := Aside0.mk hCe
        have HLE := Aside0.mk hle
        have HEX := Aside0.mk (HEQ.out xl (by rw [hre]; simp))
        have HGV := Aside0.mk hgV
        have HBV := Aside0.mk hBV
        have HPM := Aside0.mk h2
        clear hr hCe hle hgV hBV hB2V hwx hre h1 h3 hg0
        by_cases hm : pre.length = m
        · have e1 : ((pre.length : Int) == (m : Int)) = true := by rw [hm]; simp
          rw [hm] at HGV
          clear hm hpl h2
          gi_wp2
          exact ⟨⟨rfl, rfl⟩, rfl, HGV.out, HBV.out⟩
        · have e1 : ((pre.length : Int) == (m : Int)) = false := beq_eq_false_iff_ne.mpr (by omega)
          have q0 : (0 ≤ (pre.length : Int)) = True := eq_true (by omega)
          have q1 : ((pre.length : Int) < (want.length : Int)) = True := eq_true (by omega)
          have q2 : (pre.length < want.length) = True := eq_true hpl
          have HPL := Aside0.mk hpl
          have HNM := Aside0.mk hm
          have hwp : wrap64 ((pre.length : Int) + 1) = (pre.length : Int) + 1 := by have := HWL.out; unfold wrap64; omega
          clear hm hpl h2
          gi_wp2_with (refine ⟨trivial, rfl, ?_⟩; gi_at_call 15; refine (CallsIn.inRound l (callsIn_wide.2 (scriptoriumref00_EqBytes.calls k Ax cx xl Ae ce xl true _ HCX.out HLX.out HCE.out HLE.out HEX.out))).mono ?_; rintro e w' ⟨rfl, ⟨nd2, rfl⟩⟩)
          have e5 : (((pre ++ [(Value.slice Ax xl.length cx, xl)]).length : Nat) : Int) = (pre.length : Int) + 1 := by simp
          refine ⟨⟨(Below.heap_setCell _ _ _ _ (show W'.heap.size ≠ W.heap.size by omega)).trans rfl, (Below.heap_setCell _ _ _ _ (show W'.heap.size + 1 ≠ W.heap.size by omega)).trans rfl⟩, ?_, ?_, ?_, ?_⟩
          · exact Below.setCell (pw_below_drewN (Below.refl w2.heap.size V) _) (p := ⟨W.heap.size, 0, none⟩) (show w2.heap.size ≤ W.heap.size by have := HWLT.out; omega) _
          · rw [e5]
            exact blk_put (cs := #[.int .i64 (pre.length : Int)]) (blk_drewN HGV.out _) 0 _ rfl
          · have h8 := HPM.out
            have h9 := HNM.out
            rw [List.length_append]
            simp
            omega
          · exact Below.setCell (pw_below_drewN HBV.out _) (p := ⟨W.heap.size, 0, none⟩) (Nat.le_refl _) _
      case done =>
        rintro xs V hxs ⟨h1, h2, h3⟩ hK
        have hxm : xs.length = m := by
          have h9 := congrArg List.length hxs
          have h8 := HM.out
          rw [List.length_map] at h9
          omega
        rw [hxm] at h1
        clear hxm hxs h2
        have hw : wrap64 ((i : Int) + 1) = (i : Int) + 1 := by have := HI2.out; unfold wrap64; omega
        have ei : ((i + 1 : Nat) : Int) = (i : Int) + 1 := by omega
        have hc1 : V.cell? ⟨W.heap.size, 0, none⟩ = some (.int .i64 (m : Int)) := (blk_cell h1 0).trans rfl
        have hc2 : V.cell? ⟨w2.heap.size + 1, 0, none⟩ = some (.int .i64 (m : Int)) := (blk_cell ((h3.block _ (by have := HWLT.out; omega)).trans HBN.out) 0).trans rfl
        gi_wp2
        refine ⟨⟨i + 1, ({ target := .collected W'.heap.size, args := #[] } : Deferred) :: ds, _, _, _, _, _, _, _, _, _, _, _, _, _, _, _, _, _, _, _, _, _, _, _, _, by rw [hw, ei], ⟨by have := HI2.out; omega, by have h7 := HI.out.2; simpa using h7⟩, ⟨?_⟩, ⟨?_⟩, ⟨(h3.block _ (by have := HWLT.out; omega)).trans HBW.out⟩, ⟨(h3.block _ (by have := HWLT.out; omega)).trans HBN.out⟩, ⟨(h3.block _ HWLT.out).trans HBC.out⟩, ⟨HB.out.trans (h3.mono (by have := HWLT.out; omega))⟩⟩, ?_⟩
        · intro d hd
          rcases List.mem_cons.1 hd with rfl | hd
          · exact ⟨_, rfl, by have := HWLT.out; omega, hK⟩
          · obtain ⟨D, e1, e2, e3⟩ := HDS.out d hd
            exact ⟨D, e1, e2, (h3.block _ (Array.getElem?_eq_some_iff.1 e3).1).trans e3⟩
        · refine List.Pairwise.cons ?_ HPW.out
          intro d hd e
          obtain ⟨D, e1, e2, e3⟩ := HDS.out d hd
          have e4 := (Array.getElem?_eq_some_iff.1 e3).1
          rw [e1] at e
          injection e with e
          omega
        · have h9 := HI2.out
          show 2 - (intOf (.int .i64 (wrap64 ((i : Int) + 1)))).toNat < 2 - (intOf (.int .i64 (i : Int))).toNat
          rw [hw]
          show 2 - ((i : Int) + 1).toNat < 2 - (i : Int).toNat
          clear hw ei hc1 hc2
          omega
      case stop =>
        rintro c pre V _ ⟨rfl, h1, h3⟩ hK
        have hw : wrap64 ((i : Int) + 1) = (i : Int) + 1 := by have := HI2.out; unfold wrap64; omega
        have ei : ((i + 1 : Nat) : Int) = (i : Int) + 1 := by omega
        have hc1 : V.cell? ⟨W.heap.size, 0, none⟩ = some (.int .i64 (m : Int)) := (blk_cell h1 0).trans rfl
        have hc2 : V.cell? ⟨w2.heap.size + 1, 0, none⟩ = some (.int .i64 (m : Int)) := (blk_cell ((h3.block _ (by have := HWLT.out; omega)).trans HBN.out) 0).trans rfl
        gi_wp2
        refine ⟨⟨i + 1, ({ target := .collected W'.heap.size, args := #[] } : Deferred) :: ds, _, _, _, _, _, _, _, _, _, _, _, _, _, _, _, _, _, _, _, _, _, _, _, _, by rw [hw, ei], ⟨by have := HI2.out; omega, by have h7 := HI.out.2; simpa using h7⟩, ⟨?_⟩, ⟨?_⟩, ⟨(h3.block _ (by have := HWLT.out; omega)).trans HBW.out⟩, ⟨(h3.block _ (by have := HWLT.out; omega)).trans HBN.out⟩, ⟨(h3.block _ HWLT.out).trans HBC.out⟩, ⟨HB.out.trans (h3.mono (by have := HWLT.out; omega))⟩⟩, ?_⟩
        · intro d hd
          rcases List.mem_cons.1 hd with rfl | hd
          · exact ⟨_, rfl, by have := HWLT.out; omega, hK⟩
          · obtain ⟨D, e1, e2, e3⟩ := HDS.out d hd
            exact ⟨D, e1, e2, (h3.block _ (Array.getElem?_eq_some_iff.1 e3).1).trans e3⟩
        · refine List.Pairwise.cons ?_ HPW.out
          intro d hd e
          obtain ⟨D, e1, e2, e3⟩ := HDS.out d hd
          have e4 := (Array.getElem?_eq_some_iff.1 e3).1
          rw [e1] at e
          injection e with e
          omega
        · have h9 := HI2.out
          show 2 - (intOf (.int .i64 (wrap64 ((i : Int) + 1)))).toNat < 2 - (intOf (.int .i64 (i : Int))).toNat
          rw [hw]
          show 2 - ((i : Int) + 1).toNat < 2 - (i : Int).toNat
          clear hw ei hc1 hc2
          omega
    · have hi2 : i = 2 := by have := HI.out.1; omega
      subst hi2
      have hbr : W.heap[w.heap.size]? = some (.cells #[.bool false] 4 (0, 0)) := (HB.out.block _ HLT2.out).trans BR2.out
      have hcr : W.cell? ⟨w.heap.size, 0, none⟩ = some (.bool false) := (blk_cell hbr 0).trans rfl
      have hfr := blk_frozen hbr 0
      have HBR := Aside0.mk hbr
      clear hi hbr
      obtain ⟨d1, d2, rfl⟩ : ∃ d1 d2, ds = [d1, d2] := by
        have h7 := HI.out.2
        match ds, h7 with
        | [x, y], _ => exact ⟨x, y, rfl⟩
      obtain ⟨D1, rfl, e12, e13⟩ := HDS.out _ (List.mem_cons_self ..)
      obtain ⟨D2, rfl, e22, e23⟩ := HDS.out _ (List.mem_cons_of_mem _ (List.mem_cons_self ..))
      have hne : D2 ≠ D1 := by
        have h7 := (List.pairwise_cons.1 HPW.out).1 _ (List.mem_cons_self ..)
        intro e
        exact h7 (by rw [e])
      have HD := Aside0.mk (show w2.heap.size ≤ D1 ∧ w2.heap.size ≤ D2 ∧ D2 ≠ D1 from ⟨e12, e22, hne⟩)
      have HE1 := Aside0.mk e13
      have HE2 := Aside0.mk e23
      clear e12 e13 e22 e23 hne
      gi_wp2
      have hd1 := HD.out.1
      have hd2 := HD.out.2.1
      have hlt := HLT2.out
      refine ⟨by simp, .inl ⟨_, _, rfl, run_takeDeferred ((Below.heap_setCell _ _ _ _ (show D1 ≠ w.heap.size by omega)).trans HE1.out), ⟨by simp, .inl ⟨_, _, rfl, run_takeDeferred ((World.putObj_heap_other HD.out.2.2).trans ((Below.heap_setCell _ _ _ _ (show D2 ≠ w.heap.size by omega)).trans HE2.out)), ?_⟩⟩⟩⟩
      refine ⟨_, results_cell_bool rfl _ _ w.heap.size true rfl Try.underlying4 ?_, rfl, ?_⟩
      · have h9 : (W.setCell ⟨w.heap.size, 0, none⟩ (.bool true)).heap[w.heap.size]? = some (.cells #[.bool true] 4 (0, 0)) := blk_put (cs := #[.bool false]) HBR.out 0 _ rfl
        exact (blk_cell ((World.putObj_heap_other (show w.heap.size ≠ D2 by omega)).trans ((World.putObj_heap_other (show w.heap.size ≠ D1 by omega)).trans h9)) 0).trans rfl
      · have hb : Below w.heap.size w W := HB2.out.trans (HB.out.mono (by omega))
        have hb2 := Below.setCell hb (p := ⟨w.heap.size, 0, none⟩) (Nat.le_refl _) (.bool true)
        have hb3 := hb2.trans ((Off.put _ D1 (.deferred none)).below (n := w.heap.size) (by omega) hb2.size)
        exact hb3.trans ((Off.put _ D2 (.deferred none)).below (n := w.heap.size) (by omega) hb3.size)
end
/-- THE ONE PURE STATEMENT of scriptoriumlaw04_FrameStops: yours. -/
def scriptoriumlaw04_FrameStops.Pure : Prop := ∀ (a0 : List (List Int)) (a1 : Int), (a0.length ≤ maxLen ∧ a0.length * 24 ≤ 140737488351232 ∧ ∀ y0 ∈ a0, (y0.length ≤ maxLen ∧ y0.length * 1 ≤ 140737488351232 ∧ ∀ y1 ∈ y0, (Lit.int .u8 y1).wf = true)) → (Lit.int .i64 a1).wf = true → ∃ k, scriptoriumlaw04_FrameStops.f k a0 a1 = some true
theorem scriptoriumlaw04_FrameStops.walk (P : scriptoriumlaw04_FrameStops.Pure) (a0 : List (List Int)) (a1 : Int) (A0 : Option Addr) (c0 : Nat) (w : World) (w0 : (a0.length ≤ maxLen ∧ a0.length * 24 ≤ 140737488351232 ∧ ∀ y0 ∈ a0, (y0.length ≤ maxLen ∧ y0.length * 1 ≤ 140737488351232 ∧ ∀ y1 ∈ y0, (Lit.int .u8 y1).wf = true))) (w1 : (Lit.int .i64 a1).wf = true) (hr0 : Kd.C (Kd.slice 5 (Kd.int .u8)) w A0 a0.length a0) (hc0 : a0.length ≤ c0) :
    Calls Try.prog 10 #[.slice A0 a0.length c0, .int .i64 a1] w fun e w' => e = .returned (.bool true) ∧ Below w.heap.size w w' := by
  obtain ⟨k, h⟩ := P a0 a1 w0 w1
  refine (scriptoriumlaw04_FrameStops.calls k A0 c0 a0 a1 true w hr0 hc0 h rfl).mono ?_
  rintro e w' ⟨rfl, hd⟩
  exact ⟨rfl, hd⟩

end Go.Proofs.Ytkboplflbokofaa.PFrameStops
