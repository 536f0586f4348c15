/- Written by xprint.py, a program of these sessions (over the print of the kit, with leaves typed by hand): one Lean function for each Go function, and the proof that the Go code comes to its answers. -/
import Derived.Test.YthhgoiabkgfdfaaPClockRisesx0
import Derived.Test.YthhgoiabkgfdfaaPClockRisesx2
import Derived.Test.YthhgoiabkgfdfaaPClockRisesx3
import Derived.Test.YthhgoiabkgfdfaaPClockRisesx5
namespace Go.Proofs.Ythhgoiabkgfdfaa.PClockRises
open Go.RowKit Go.Proofs.YthhgoiabkgfdfaaW.PrintWords Go.Proofs.YthhgoiabkgfdfaaW.PrintLast Go.Proofs.YthhgoiabkgfdfaaW.PrintMore
attribute [local go_sem] max2_int min2_int max_two min_two max_three min_three max_four min_four   -- for this text's walks alone
attribute [local go_sem] fld_wall fld_logic
set_option linter.unusedVariables false
set_option linter.unusedSimpArgs false

/-! ### scriptoriumlaw06_ClockRises: function 7 -/
mutual
def scriptoriumlaw06_ClockRises.l0 : Nat → List (S45) → Int → Int → Int → Int → Int → Int → Int → Bool → Int → Int → Option (Bool)
  | 0, _, _, _, _, _, _, _, _, _, _, _ => none
  | k + 1, x1, x8, x328000, x328001, x328002, x328003, x328004, x328005, x328006, x339000, x339001 => if x8 < (x1.length : Int) then (scriptoriumlaw06_ClockRises.j1 k x1 x8 (decide (x8 < 200)) x328000 x328001 x328002 x328003 x328004 x328005 x328006 x339000 x339001) else (scriptoriumlaw06_ClockRises.j1 k x1 x8 false x328000 x328001 x328002 x328003 x328004 x328005 x328006 x339000 x339001)
def scriptoriumlaw06_ClockRises.j1 : Nat → List (S45) → Int → Bool → Int → Int → Int → Int → Int → Int → Bool → Int → Int → Option (Bool)
  | 0, _, _, _, _, _, _, _, _, _, _, _, _ => none
  | k + 1, x1, x8, x29, x328000, x328001, x328002, x328003, x328004, x328005, x328006, x339000, x339001 => if x29 = true then (if 0 ≤ x8 then (if x8 < (x1.length : Int) then ((scriptoriumlaw06_bring.f ((rd_T45 x1 x8).f0) ((rd_T45 x1 x8).f1) ((rd_T45 x1 x8).f2.f0) ((rd_T45 x1 x8).f2.f1)).bind fun bt341 => ((scriptoriumlaw06_does.f x328000 x328001 x328002 x328003 x328004 x328005 x328006 bt341.1 bt341.2.1 bt341.2.2.1 bt341.2.2.2).bind fun bt346 => (if bt346.2.2.1 = true then ((stamp_Less.f k x339000 x339001 bt346.1 bt346.2.1).bind fun t357 => (if t357 = true then ((clock_Clock_Bound.f bt346.2.2.2.1 bt346.2.2.2.2.1 bt346.2.2.2.2.2.1 bt346.2.2.2.2.2.2.1 bt346.2.2.2.2.2.2.2.1 bt346.2.2.2.2.2.2.2.2.1 bt346.2.2.2.2.2.2.2.2.2).bind fun bt358 => (if bt346.1 ≥ bt358.1 then (some false) else ((clock_Clock_Reading.f bt358.2.1 bt358.2.2.1 bt358.2.2.2.1 bt358.2.2.2.2.1 bt358.2.2.2.2.2.1 bt358.2.2.2.2.2.2.1 bt358.2.2.2.2.2.2.2).bind fun bt366 => (if bt346.1 < bt366.1 then (some false) else (scriptoriumlaw06_ClockRises.j2 k x1 x8 bt366.2.1 bt366.2.2.1 bt366.2.2.2.1 bt366.2.2.2.2.1 bt366.2.2.2.2.2.1 bt366.2.2.2.2.2.2.1 bt366.2.2.2.2.2.2.2 bt346.1 bt346.2.1))))) else (some false))) else (scriptoriumlaw06_ClockRises.j2 k x1 x8 bt346.2.2.2.1 bt346.2.2.2.2.1 bt346.2.2.2.2.2.1 bt346.2.2.2.2.2.2.1 bt346.2.2.2.2.2.2.2.1 bt346.2.2.2.2.2.2.2.2.1 bt346.2.2.2.2.2.2.2.2.2 x339000 x339001)))) else (none)) else (none)) else ((scriptoriumlaw06_awake.f k).bind fun t339 => (some t339))
def scriptoriumlaw06_ClockRises.j2 : Nat → List (S45) → Int → Int → Int → Int → Int → Int → Int → Bool → Int → Int → Option (Bool)
  | 0, _, _, _, _, _, _, _, _, _, _, _ => none
  | k + 1, x1, x8, x328000, x328001, x328002, x328003, x328004, x328005, x328006, x339000, x339001 => (clock_Clock_Last.f x328000 x328001 x328002 x328003 x328004 x328005 x328006).bind fun bt374 => ((stamp_Less.f k bt374.1 bt374.2.1 x339000 x339001).bind fun t383 => (if t383 = true then (scriptoriumlaw06_ClockRises.j3 k x1 x8 true bt374.2.2.1 bt374.2.2.2.1 bt374.2.2.2.2.1 bt374.2.2.2.2.2.1 bt374.2.2.2.2.2.2.1 bt374.2.2.2.2.2.2.2.1 bt374.2.2.2.2.2.2.2.2 x339000 x339001) else ((clock_Clock_Last.f bt374.2.2.1 bt374.2.2.2.1 bt374.2.2.2.2.1 bt374.2.2.2.2.2.1 bt374.2.2.2.2.2.2.1 bt374.2.2.2.2.2.2.2.1 bt374.2.2.2.2.2.2.2.2).bind fun bt384 => ((clock_Clock_Bound.f bt384.2.2.1 bt384.2.2.2.1 bt384.2.2.2.2.1 bt384.2.2.2.2.2.1 bt384.2.2.2.2.2.2.1 bt384.2.2.2.2.2.2.2.1 bt384.2.2.2.2.2.2.2.2).bind fun bt393 => (scriptoriumlaw06_ClockRises.j3 k x1 x8 (decide (bt384.1 ≥ (mx bt393.1 1))) bt393.2.1 bt393.2.2.1 bt393.2.2.2.1 bt393.2.2.2.2.1 bt393.2.2.2.2.2.1 bt393.2.2.2.2.2.2.1 bt393.2.2.2.2.2.2.2 x339000 x339001)))))
def scriptoriumlaw06_ClockRises.j3 : Nat → List (S45) → Int → Bool → Int → Int → Int → Int → Int → Int → Bool → Int → Int → Option (Bool)
  | 0, _, _, _, _, _, _, _, _, _, _, _, _ => none
  | k + 1, x1, x8, x75, x328000, x328001, x328002, x328003, x328004, x328005, x328006, x339000, x339001 => if x75 = true then (some false) else ((clock_Clock_Last.f x328000 x328001 x328002 x328003 x328004 x328005 x328006).bind fun bt401 => ((stamp_Max.f (([(⟨x339000, x339001⟩ : S33), (⟨bt401.1, bt401.2.1⟩ : S33)] : List (S33)))).bind fun bt413 => (scriptoriumlaw06_ClockRises.l0 k x1 (wrap64 (x8 + 1)) bt401.2.2.1 bt401.2.2.2.1 bt401.2.2.2.2.1 bt401.2.2.2.2.2.1 bt401.2.2.2.2.2.2.1 bt401.2.2.2.2.2.2.2.1 bt401.2.2.2.2.2.2.2.2 bt413.1 bt413.2)))
end
def scriptoriumlaw06_ClockRises.f (k : Nat) (a0 : Int) (l1 : List (S45)) : Option (Bool) := (scriptoriumref00_Bring.f a0 500).bind fun t319 => ((clock_New.f 20 t319).bind fun bt320 => (if bt320.2.2.2.2.2.2.2 = 0 then ((clock_Clock_Last.f bt320.1 bt320.2.1 bt320.2.2.1 bt320.2.2.2.1 bt320.2.2.2.2.1 bt320.2.2.2.2.2.1 bt320.2.2.2.2.2.2.1).bind fun bt329 => (scriptoriumlaw06_ClockRises.l0 k l1 0 bt329.2.2.1 bt329.2.2.2.1 bt329.2.2.2.2.1 bt329.2.2.2.2.2.1 bt329.2.2.2.2.2.2.1 bt329.2.2.2.2.2.2.2.1 bt329.2.2.2.2.2.2.2.2 bt329.1 bt329.2.1)) else (some false)))
theorem scriptoriumlaw06_ClockRises.mono_l : ∀ k, (∀ y0 y1 y2 y3 y4 y5 y6 y7 y8 y9 y10, LeO (scriptoriumlaw06_ClockRises.l0 k y0 y1 y2 y3 y4 y5 y6 y7 y8 y9 y10) (scriptoriumlaw06_ClockRises.l0 (k + 1) y0 y1 y2 y3 y4 y5 y6 y7 y8 y9 y10)) ∧ (∀ y0 y1 y2 y3 y4 y5 y6 y7 y8 y9 y10 y11, LeO (scriptoriumlaw06_ClockRises.j1 k y0 y1 y2 y3 y4 y5 y6 y7 y8 y9 y10 y11) (scriptoriumlaw06_ClockRises.j1 (k + 1) y0 y1 y2 y3 y4 y5 y6 y7 y8 y9 y10 y11)) ∧ (∀ y0 y1 y2 y3 y4 y5 y6 y7 y8 y9 y10, LeO (scriptoriumlaw06_ClockRises.j2 k y0 y1 y2 y3 y4 y5 y6 y7 y8 y9 y10) (scriptoriumlaw06_ClockRises.j2 (k + 1) y0 y1 y2 y3 y4 y5 y6 y7 y8 y9 y10)) ∧ (∀ y0 y1 y2 y3 y4 y5 y6 y7 y8 y9 y10 y11, LeO (scriptoriumlaw06_ClockRises.j3 k y0 y1 y2 y3 y4 y5 y6 y7 y8 y9 y10 y11) (scriptoriumlaw06_ClockRises.j3 (k + 1) y0 y1 y2 y3 y4 y5 y6 y7 y8 y9 y10 y11))
  | 0 => ⟨fun _ _ _ _ _ _ _ _ _ _ _ r h => by simp [scriptoriumlaw06_ClockRises.l0] at h, fun _ _ _ _ _ _ _ _ _ _ _ _ r h => by simp [scriptoriumlaw06_ClockRises.j1] at h, fun _ _ _ _ _ _ _ _ _ _ _ r h => by simp [scriptoriumlaw06_ClockRises.j2] at h, fun _ _ _ _ _ _ _ _ _ _ _ _ r h => by simp [scriptoriumlaw06_ClockRises.j3] at h⟩
  | k + 1 => by
    obtain ⟨ih0, ih1, ih2, ih3⟩ := scriptoriumlaw06_ClockRises.mono_l k
    refine ⟨?_, ?_, ?_, ?_⟩
    · intro y0 y1 y2 y3 y4 y5 y6 y7 y8 y9 y10
      unfold scriptoriumlaw06_ClockRises.l0
      repeat' first
      | (with_reducible exact ih0 _ _ _ _ _ _ _ _ _ _ _)
      | (with_reducible exact ih1 _ _ _ _ _ _ _ _ _ _ _ _)
      | (with_reducible exact ih2 _ _ _ _ _ _ _ _ _ _ _)
      | (with_reducible exact ih3 _ _ _ _ _ _ _ _ _ _ _ _)
      | (with_reducible exact scriptoriumlaw06_awake.mono _)
      | (with_reducible exact stamp_Less.mono _ _ _ _ _)
      | (with_reducible exact LeO.refl _)
      | (with_reducible exact LeO.none _)
      | (with_reducible refine LeO.ite ?_ ?_)
      | (with_reducible refine LeO.bind ?_ (fun _ => ?_))
      | exact ih0 _ _ _ _ _ _ _ _ _ _ _
      | exact ih1 _ _ _ _ _ _ _ _ _ _ _ _
      | exact ih2 _ _ _ _ _ _ _ _ _ _ _
      | exact ih3 _ _ _ _ _ _ _ _ _ _ _ _
      | exact scriptoriumlaw06_awake.mono _
      | exact stamp_Less.mono _ _ _ _ _
      | exact LeO.none _
      | refine LeO.ite ?_ ?_
      | refine LeO.bind ?_ (fun _ => ?_)
    · intro y0 y1 y2 y3 y4 y5 y6 y7 y8 y9 y10 y11
      unfold scriptoriumlaw06_ClockRises.j1
      repeat' first
      | (with_reducible exact ih0 _ _ _ _ _ _ _ _ _ _ _)
      | (with_reducible exact ih1 _ _ _ _ _ _ _ _ _ _ _ _)
      | (with_reducible exact ih2 _ _ _ _ _ _ _ _ _ _ _)
      | (with_reducible exact ih3 _ _ _ _ _ _ _ _ _ _ _ _)
      | (with_reducible exact scriptoriumlaw06_awake.mono _)
      | (with_reducible exact stamp_Less.mono _ _ _ _ _)
      | (with_reducible exact LeO.refl _)
      | (with_reducible exact LeO.none _)
      | (with_reducible refine LeO.ite ?_ ?_)
      | (with_reducible refine LeO.bind ?_ (fun _ => ?_))
      | exact ih0 _ _ _ _ _ _ _ _ _ _ _
      | exact ih1 _ _ _ _ _ _ _ _ _ _ _ _
      | exact ih2 _ _ _ _ _ _ _ _ _ _ _
      | exact ih3 _ _ _ _ _ _ _ _ _ _ _ _
      | exact scriptoriumlaw06_awake.mono _
      | exact stamp_Less.mono _ _ _ _ _
      | exact LeO.none _
      | refine LeO.ite ?_ ?_
      | refine LeO.bind ?_ (fun _ => ?_)
    · intro y0 y1 y2 y3 y4 y5 y6 y7 y8 y9 y10
      unfold scriptoriumlaw06_ClockRises.j2
      repeat' first
      | (with_reducible exact ih0 _ _ _ _ _ _ _ _ _ _ _)
      | (with_reducible exact ih1 _ _ _ _ _ _ _ _ _ _ _ _)
      | (with_reducible exact ih2 _ _ _ _ _ _ _ _ _ _ _)
      | (with_reducible exact ih3 _ _ _ _ _ _ _ _ _ _ _ _)
      | (with_reducible exact scriptoriumlaw06_awake.mono _)
      | (with_reducible exact stamp_Less.mono _ _ _ _ _)
      | (with_reducible exact LeO.refl _)
      | (with_reducible exact LeO.none _)
      | (with_reducible refine LeO.ite ?_ ?_)
      | (with_reducible refine LeO.bind ?_ (fun _ => ?_))
      | exact ih0 _ _ _ _ _ _ _ _ _ _ _
      | exact ih1 _ _ _ _ _ _ _ _ _ _ _ _
      | exact ih2 _ _ _ _ _ _ _ _ _ _ _
      | exact ih3 _ _ _ _ _ _ _ _ _ _ _ _
      | exact scriptoriumlaw06_awake.mono _
      | exact stamp_Less.mono _ _ _ _ _
      | exact LeO.none _
      | refine LeO.ite ?_ ?_
      | refine LeO.bind ?_ (fun _ => ?_)
    · intro y0 y1 y2 y3 y4 y5 y6 y7 y8 y9 y10 y11
      unfold scriptoriumlaw06_ClockRises.j3
      repeat' first
      | (with_reducible exact ih0 _ _ _ _ _ _ _ _ _ _ _)
      | (with_reducible exact ih1 _ _ _ _ _ _ _ _ _ _ _ _)
      | (with_reducible exact ih2 _ _ _ _ _ _ _ _ _ _ _)
      | (with_reducible exact ih3 _ _ _ _ _ _ _ _ _ _ _ _)
      | (with_reducible exact scriptoriumlaw06_awake.mono _)
      | (with_reducible exact stamp_Less.mono _ _ _ _ _)
      | (with_reducible exact LeO.refl _)
      | (with_reducible exact LeO.none _)
      | (with_reducible refine LeO.ite ?_ ?_)
      | (with_reducible refine LeO.bind ?_ (fun _ => ?_))
      | exact ih0 _ _ _ _ _ _ _ _ _ _ _
      | exact ih1 _ _ _ _ _ _ _ _ _ _ _ _
      | exact ih2 _ _ _ _ _ _ _ _ _ _ _
      | exact ih3 _ _ _ _ _ _ _ _ _ _ _ _
      | exact scriptoriumlaw06_awake.mono _
      | exact stamp_Less.mono _ _ _ _ _
      | exact LeO.none _
      | refine LeO.ite ?_ ?_
      | refine LeO.bind ?_ (fun _ => ?_)
theorem scriptoriumlaw06_ClockRises.mono : ∀ a0 a1 k, LeO (scriptoriumlaw06_ClockRises.f k a0 a1) (scriptoriumlaw06_ClockRises.f (k + 1) a0 a1) := by
  intro a0 a1 k
  obtain ⟨ih0, ih1, ih2, ih3⟩ := scriptoriumlaw06_ClockRises.mono_l k
  unfold scriptoriumlaw06_ClockRises.f
  repeat' first
      | (with_reducible exact ih0 _ _ _ _ _ _ _ _ _ _ _)
      | (with_reducible exact ih1 _ _ _ _ _ _ _ _ _ _ _ _)
      | (with_reducible exact ih2 _ _ _ _ _ _ _ _ _ _ _)
      | (with_reducible exact ih3 _ _ _ _ _ _ _ _ _ _ _ _)
      | (with_reducible exact scriptoriumlaw06_awake.mono _)
      | (with_reducible exact stamp_Less.mono _ _ _ _ _)
      | (with_reducible exact LeO.refl _)
      | (with_reducible exact LeO.none _)
      | (with_reducible refine LeO.ite ?_ ?_)
      | (with_reducible refine LeO.bind ?_ (fun _ => ?_))
      | exact ih0 _ _ _ _ _ _ _ _ _ _ _
      | exact ih1 _ _ _ _ _ _ _ _ _ _ _ _
      | exact ih2 _ _ _ _ _ _ _ _ _ _ _
      | exact ih3 _ _ _ _ _ _ _ _ _ _ _ _
      | exact scriptoriumlaw06_awake.mono _
      | exact stamp_Less.mono _ _ _ _ _
      | exact LeO.none _
      | refine LeO.ite ?_ ?_
      | refine LeO.bind ?_ (fun _ => ?_)
def scriptoriumlaw06_ClockRises.T11 : Bool × List (List Nat × List Nat) := (true, [([], []), ([], []), ([0, 1], [0, 1]), ([2], [2]), ([3, 2], [3]), ([4], [4]), ([5, 4], [4, 5]), ([4], [4]), ([7, 4, 4], [4, 7]), ([6, 8, 4], [4, 6, 8]), ([4, 9], [4, 9]), ([10, 8], [10]), ([11], [11]), ([12, 11], [11, 12]), ([11], [11]), ([14, 11, 11], [11, 14]), ([13, 15, 11], [11, 13, 15]), ([11, 16], [11, 16])])
def scriptoriumlaw06_ClockRises.B11 : List Nat := [0, 0, 3, 7, 15, 31, 63, 31, 159, 511, 1023, 2047, 4095, 8191, 4095, 20479, 65535, 131071]
theorem scriptoriumlaw06_ClockRises.tab11 : rtab .any (opsOf Try.f7 11) = scriptoriumlaw06_ClockRises.T11 := by kernel_rfl
theorem scriptoriumlaw06_ClockRises.bits11 : waitsOk scriptoriumlaw06_ClockRises.T11.2 scriptoriumlaw06_ClockRises.B11 = true := by kernel_rfl
def scriptoriumlaw06_ClockRises.T14 : Bool × List (List Nat × List Nat) := (true, [([], []), ([0], [0]), ([], []), ([1, 2, 1], [1, 2]), ([3, 3], [3]), ([4], [4]), ([5, 4, 4], [4, 5]), ([6, 4], [4, 6]), ([4], [4]), ([8, 6, 4], [4, 8]), ([9, 4], [4, 9]), ([7, 10, 4], [4, 7, 10]), ([4, 11], [4, 11])])
def scriptoriumlaw06_ClockRises.B14 : List Nat := [0, 1, 0, 7, 15, 31, 63, 127, 31, 383, 895, 2047, 4095]
theorem scriptoriumlaw06_ClockRises.tab14 : rtab .any (opsOf Try.f7 14) = scriptoriumlaw06_ClockRises.T14 := by kernel_rfl
theorem scriptoriumlaw06_ClockRises.bits14 : waitsOk scriptoriumlaw06_ClockRises.T14.2 scriptoriumlaw06_ClockRises.B14 = true := by kernel_rfl
set_option maxHeartbeats 8000000 in
set_option maxRecDepth 100000 in
theorem scriptoriumlaw06_ClockRises.calls (k : Nat) (a0 : Int) (A1 : Option Addr) (c1 : Nat) (l1 : List (S45)) (r : Bool) (w : World) (hr1 : Kd.C k45 w A1 l1.length l1) (hc1 : l1.length ≤ c1) (h : scriptoriumlaw06_ClockRises.f k a0 l1 = some r) (hrt : r = true) :
    Calls Try.prog 7 #[.int .i64 a0, .slice A1 l1.length c1] w fun e w' => e = .returned (.bool r) ∧ Below w.heap.size w w' := by
  have hu33 := Try.underlying33
  have hu45 := Try.underlying45
  have HR1 := Aside0.mk hr1
  have HC1 := Aside0.mk hc1
  clear hr1 hc1
  have HB := Aside0.mk (Below.refl w.heap.size w)
  have H : ((scriptoriumref00_Bring.f a0 500).bind fun t319 => ((clock_New.f 20 t319).bind fun bt320 => (if bt320.2.2.2.2.2.2.2 = 0 then ((clock_Clock_Last.f bt320.1 bt320.2.1 bt320.2.2.1 bt320.2.2.2.1 bt320.2.2.2.2.1 bt320.2.2.2.2.2.1 bt320.2.2.2.2.2.2.1).bind fun bt329 => (scriptoriumlaw06_ClockRises.l0 k l1 0 bt329.2.2.1 bt329.2.2.2.1 bt329.2.2.2.2.1 bt329.2.2.2.2.2.1 bt329.2.2.2.2.2.2.1 bt329.2.2.2.2.2.2.2.1 bt329.2.2.2.2.2.2.2.2 bt329.1 bt329.2.1)) else (some false)))) = some r := h
  clear h
  replace H := Option.bind_eq_some_iff.mp H
  obtain ⟨t319, A30, H⟩ := H
  replace H : ((clock_New.f 20 t319).bind fun bt320 => (if bt320.2.2.2.2.2.2.2 = 0 then ((clock_Clock_Last.f bt320.1 bt320.2.1 bt320.2.2.1 bt320.2.2.2.1 bt320.2.2.2.2.1 bt320.2.2.2.2.2.1 bt320.2.2.2.2.2.2.1).bind fun bt329 => (scriptoriumlaw06_ClockRises.l0 k l1 0 bt329.2.2.1 bt329.2.2.2.1 bt329.2.2.2.2.1 bt329.2.2.2.2.2.1 bt329.2.2.2.2.2.2.1 bt329.2.2.2.2.2.2.2.1 bt329.2.2.2.2.2.2.2.2 bt329.1 bt329.2.1)) else (some false))) = some r := H
  have A3 := Aside0.mk A30
  clear A30
  replace H := Option.bind_eq_some_iff.mp H
  obtain ⟨⟨t320, t321, t322, t323, t324, t325, t326, t328⟩, A40, H⟩ := H
  replace H : (if t328 = 0 then ((clock_Clock_Last.f t320 t321 t322 t323 t324 t325 t326).bind fun bt329 => (scriptoriumlaw06_ClockRises.l0 k l1 0 bt329.2.2.1 bt329.2.2.2.1 bt329.2.2.2.2.1 bt329.2.2.2.2.2.1 bt329.2.2.2.2.2.2.1 bt329.2.2.2.2.2.2.2.1 bt329.2.2.2.2.2.2.2.2 bt329.1 bt329.2.1)) else (some false)) = some r := H
  have A4 := Aside0.mk A40
  clear A40
  by_cases c5 : t328 = 0
  · rw [if_pos c5] at H
    have c5b0 : (t328 == 0) = true := beq_iff_eq.mpr c5
    have c5b1 : (t328 != 0) = false := bne_eq_false_iff_eq.mpr c5
    clear c5
    replace H := Option.bind_eq_some_iff.mp H
    obtain ⟨⟨t329, t330, t331, t332, t333, t334, t335, t336, t337⟩, A60, H⟩ := H
    replace H : (scriptoriumlaw06_ClockRises.l0 k l1 0 t331 t332 t333 t334 t335 t336 t337 t329 t330) = some r := H
    have A6 := Aside0.mk A60
    clear A60
    have H' := Aside0.mk H
    clear H
    go_enter Try.func7, Try.ntmps7
    go_wp2_with (first | ((with_reducible refine gate_callee (f := 12) rfl ?_); refine goesL_ (some 14) rfl rfl Try.func12 (by kernel_rfl) rfl #[.int .i64 a0, .int .i64 500] rfl (by (try simp only [List.map_toArray, List.map_cons, List.map_nil]); first | done | rfl | (simp only [List.length_drop, List.length_take]; rfl)) ?_; (with_reducible refine (scriptoriumref00_Bring.calls a0 500 t319 _ A3.out).mono ?_); rintro e w' ⟨rfl, ⟨nd, rfl⟩⟩; refine ⟨_, rfl, ?_⟩) | ((with_reducible refine gate_callee (f := 9) rfl ?_); refine goesL_ (some 15) rfl rfl Try.func9 (by kernel_rfl) rfl #[.int .i64 20, .int .i64 t319] rfl (by (try simp only [List.map_toArray, List.map_cons, List.map_nil]); first | done | rfl | (simp only [List.length_drop, List.length_take]; rfl)) ?_; (with_reducible refine (clock_New.calls 20 t319 t320 t321 t322 t323 t324 t325 t326 t328 w _ ?side1 A4.out).mono ?_); (case side1 => repeat (first | (with_reducible first | exact HB.out | apply below_alloc | apply pw_below_drewN | apply below_drew1) | exact HB.out)); rintro e w7 ⟨g327, rfl, hi, hb, hb2, hgn⟩; refine ⟨_, rfl, ?_⟩; have n0_ := Aside0.mk (hb); have n1_ := Aside0.mk (hi); clear HB; have HB := n0_; have HI327 := n1_; clear n0_ n1_; (try clear hb); (try clear hb2); (try clear hk); (try clear hi); (try clear hgn)) | ((with_reducible refine gate_callee (f := 21) rfl ?_); refine goesL_ (some 21) rfl rfl Try.func21 (by kernel_rfl) rfl #[.pointer (some ⟨g327, 0, none⟩)] rfl (by (try simp only [List.map_toArray, List.map_cons, List.map_nil]); first | done | rfl | (simp only [List.length_drop, List.length_take]; rfl)) ?_; (with_reducible refine (clock_Clock_Last.calls g327 t320 t321 t322 t323 t324 t325 t326 t329 t330 t331 t332 t333 t334 t335 t336 t337 w _ ?side1 ?side2 A6.out).mono ?_); (case side1 => repeat (first | (with_reducible first | exact HI327.out | apply IsS51.alloc | apply IsS51.drewN | apply IsS51.drew | apply IsS51.set_0 | apply IsS51.set_1 | apply IsS51.set_2 | apply IsS51.set_3 | apply IsS51.set_4 | apply IsS51.set_5 | apply IsS51.set_6) | exact HI327.out)); (case side2 => repeat (first | (with_reducible first | exact HB.out | apply below_alloc | apply pw_below_drewN | apply below_drew1 | refine below_set ?_ (IsS51.ge HI327.out)) | exact HB.out)); rintro e w8 ⟨rfl, hi, hb, hk⟩; refine ⟨_, rfl, ?_⟩; have n0_ := Aside0.mk (hb); have n1_ := Aside0.mk (hi); clear HB; clear HI327; have HB := n0_; have HI327 := n1_; clear n0_ n1_; (try clear hb); (try clear hb2); (try clear hk); (try clear hi); (try clear hgn)) | ((with_reducible refine gate_dst (N := 7) rfl ?_); (try (refine gate_guard (by rfl) ?_; dsimp only)); refine box_event ?hg (N := 7) ?hd (cs := #[.int .i64 0, .int .i64 0]) (t := 33) ?hr ?_; (case hd => rfl); (case hg => rfl); (case hr => first | (go_simp; done) | (go_simp; rfl)); intro gb338 hg w9 hbox hb; have n0_ := Aside0.mk (IsS51.below (by repeat (first | (with_reducible first | exact HI327.out | apply IsS51.alloc | apply IsS51.drewN | apply IsS51.drew | apply IsS51.set_0 | apply IsS51.set_1 | apply IsS51.set_2 | apply IsS51.set_3 | apply IsS51.set_4 | apply IsS51.set_5 | apply IsS51.set_6) | exact HI327.out)) hb); have n1_ := Aside0.mk (below_step (by repeat (first | (with_reducible first | exact HB.out | apply below_alloc | apply pw_below_drewN | apply below_drew1 | refine below_set ?_ (IsS51.ge HI327.out)) | exact HB.out)) hb); have n2_ := Aside0.mk (hbox); have n3_ := Aside0.mk ((by rw [hg]; exact (below_size (by repeat (first | (with_reducible first | exact HB.out | apply below_alloc | apply pw_below_drewN | apply below_drew1 | refine below_set ?_ (IsS51.ge HI327.out)) | exact HB.out))) : w.heap.size ≤ gb338)); have n4_ := Aside0.mk ((by rw [hg]; exact (below_size (by repeat (first | (with_reducible first | exact HB.out | apply below_alloc | apply pw_below_drewN | apply below_drew1 | refine below_set ?_ (IsS51.ge HI327.out)) | exact HB.out))) : w.heap.size ≤ gb338)); have n5_ := Aside0.mk ((by rw [hg]; exact Nat.ne_of_lt (IsS51.lt (show IsS51 w _ g327 t331 t332 t333 t334 t335 t336 t337 from by repeat (first | (with_reducible first | exact HI327.out | apply IsS51.alloc | apply IsS51.drewN | apply IsS51.drew | apply IsS51.set_0 | apply IsS51.set_1 | apply IsS51.set_2 | apply IsS51.set_3 | apply IsS51.set_4 | apply IsS51.set_5 | apply IsS51.set_6) | exact HI327.out))) : g327 ≠ gb338)); have n6_ := Aside0.mk ((by rw [hg]; exact Nat.ne_of_gt (IsS51.lt (show IsS51 w _ g327 t331 t332 t333 t334 t335 t336 t337 from by repeat (first | (with_reducible first | exact HI327.out | apply IsS51.alloc | apply IsS51.drewN | apply IsS51.drew | apply IsS51.set_0 | apply IsS51.set_1 | apply IsS51.set_2 | apply IsS51.set_3 | apply IsS51.set_4 | apply IsS51.set_5 | apply IsS51.set_6) | exact HI327.out))) : gb338 ≠ g327)); clear HI327; clear HB; have HI327 := n0_; have HB := n1_; have BK338 := n2_; have GW338 := n3_; have GE338 := n4_; have NB327_338 := n5_; have NB338_327 := n6_; clear n0_ n1_ n2_ n3_ n4_ n5_ n6_; clear hb hbox hg; have hnb10 := NB338_327.out; have hnc10 := NB327_338.out; have hcz11_0 : w9.cell? ⟨gb338, 0, none⟩ = some (.int .i64 0) := (blk_cell BK338.out 0).trans rfl; have hcz11_1 : w9.cell? ⟨gb338, 1, none⟩ = some (.int .i64 0) := (blk_cell BK338.out 1).trans rfl; have hfz11_0 := blk_frozen BK338.out 0; have hfz11_1 := blk_frozen BK338.out 1))
    go_loopg [8] k (fun kq v8 w' => ∃ (x8_1 : Int) (x328000_1 : Int) (x328001_1 : Int) (x328002_1 : Int) (x328003_1 : Int) (x328004_1 : Int) (x328005_1 : Int) (x328006_1 : Bool) (x339000_1 : Int) (x339001_1 : Int), v8 = .int .i64 x8_1 ∧ Aside0 (scriptoriumlaw06_ClockRises.l0 kq l1 x8_1 x328000_1 x328001_1 x328002_1 x328003_1 x328004_1 x328005_1 x328006_1 x339000_1 x339001_1 = some r) ∧ Aside0 (kq ≤ k) ∧ Aside0 (w'.heap[gb338]? = some (.cells #[.int .i64 x339000_1, .int .i64 x339001_1] 33 (0, 0))) ∧ Aside0 (IsS51 w w' g327 x328000_1 x328001_1 x328002_1 x328003_1 x328004_1 x328005_1 x328006_1) ∧ Aside0 (Below w.heap.size w w'))
    case atStart => exact ⟨(0), (t331), (t332), (t333), (t334), (t335), (t336), (t337), (t329), (t330), (by first | rfl | (simp; done) | (simp [*]; done)), H', ⟨Nat.le_refl _⟩, ⟨by (with_reducible repeat (first | refine blk_drewN ?_ _ | refine blk_drew ?_ | refine blk_alloc ?_ _)); refine blk_put (cs := #[.int .i64 t329, .int .i64 0]) ?_ 1 _ rfl; (with_reducible repeat (first | refine blk_drewN ?_ _ | refine blk_drew ?_ | refine blk_alloc ?_ _)); refine blk_put (cs := #[.int .i64 0, .int .i64 0]) ?_ 0 _ rfl; (with_reducible repeat (first | refine blk_drewN ?_ _ | refine blk_drew ?_ | refine blk_alloc ?_ _)); exact BK338.out⟩, ⟨by repeat (first | (with_reducible first | exact HI327.out | apply IsS51.alloc | apply IsS51.drewN | apply IsS51.drew | apply IsS51.set_0 | apply IsS51.set_1 | apply IsS51.set_2 | apply IsS51.set_3 | apply IsS51.set_4 | apply IsS51.set_5 | apply IsS51.set_6 | refine IsS51.far ?_ NB327_338.out _) | exact HI327.out)⟩, ⟨by repeat (first | (with_reducible first | exact HB.out | apply below_alloc | apply pw_below_drewN | apply below_drew1 | refine below_set ?_ (IsS51.ge HI327.out) | refine below_set ?_ GE338.out) | exact HB.out)⟩⟩
    case round =>
      clear H'
      try clear c1
      try clear c2
      try clear p2
      try clear c5
      try clear c5b0
      try clear c5b1
      try clear c7
      try clear c9
      try clear c10
      try clear hcz11_0
      try clear hcz11_1
      try clear hfz11_0
      try clear hfz11_1
      obtain ⟨x8_1, x328000_1, x328001_1, x328002_1, x328003_1, x328004_1, x328005_1, x328006_1, x339000_1, x339001_1, rfl, HA, HK1, BK338, HI327, HB⟩ := hrel
      cases gk with
      | zero => exact absurd HA.out (by simp [scriptoriumlaw06_ClockRises.l0])
      | succ k1 =>
        have H := HA.out
        clear HA
        simp only [scriptoriumlaw06_ClockRises.l0] at H
        have HC12 := Aside0.mk H
        clear H
        go_upto_region 6 with (fail)
        go_cut [29] (fun v29 wc => ∃ (kq : Nat) (x29_11 : Bool), v29 = .bool x29_11 ∧ Aside0 (scriptoriumlaw06_ClockRises.j1 kq l1 x8_1 x29_11 x328000_1 x328001_1 x328002_1 x328003_1 x328004_1 x328005_1 x328006_1 x339000_1 x339001_1 = some r) ∧ Aside0 (kq ≤ k1) ∧ Aside0 (wc.heap[gb338]? = some (.cells #[.int .i64 x339000_1, .int .i64 x339001_1] 33 (0, 0))) ∧ Aside0 (IsS51 w wc g327 x328000_1 x328001_1 x328002_1 x328003_1 x328004_1 x328005_1 x328006_1) ∧ Aside0 (Below w.heap.size w wc))
        case first =>
          have H := HC12.out
          clear HC12
          by_cases c13 : x8_1 < (l1.length : Int)
          · rw [if_pos c13] at H
            have c13b0 : decide (x8_1 < (l1.length : Int)) = true := decide_eq_true c13
            clear c13
            (first | rw [c13b0] | (simp only [i64_w, i32_w]; rw [c13b0]) | skip)
            have H' := Aside0.mk H
            clear H
            go_wp2
            go_meet
            case rel => exact ⟨_, (decide (x8_1 < 200)), (by first | rfl | (simp; done) | (simp [*]; done)), H', ⟨by have := HK1.out; first | omega | exact Nat.le_refl _⟩, ⟨by (with_reducible repeat (first | refine blk_drewN ?_ _ | refine blk_drew ?_ | refine blk_alloc ?_ _)); exact BK338.out⟩, ⟨by repeat (first | (with_reducible first | exact HI327.out | apply IsS51.alloc | apply IsS51.drewN | apply IsS51.drew | apply IsS51.set_0 | apply IsS51.set_1 | apply IsS51.set_2 | apply IsS51.set_3 | apply IsS51.set_4 | apply IsS51.set_5 | apply IsS51.set_6 | refine IsS51.far ?_ NB327_338.out _) | exact HI327.out)⟩, ⟨by repeat (first | (with_reducible first | exact HB.out | apply below_alloc | apply pw_below_drewN | apply below_drew1 | refine below_set ?_ (IsS51.ge HI327.out) | refine below_set ?_ GE338.out) | exact HB.out)⟩⟩
          · rw [if_neg c13] at H
            have c13b0 : decide (x8_1 < (l1.length : Int)) = false := decide_eq_false c13
            clear c13
            (first | rw [c13b0] | (simp only [i64_w, i32_w]; rw [c13b0]) | skip)
            have H' := Aside0.mk H
            clear H
            go_wp2
            go_meet
            case rel => exact ⟨_, (false), (by first | rfl | (simp; done) | (simp [*]; done)), H', ⟨by have := HK1.out; first | omega | exact Nat.le_refl _⟩, ⟨by (with_reducible repeat (first | refine blk_drewN ?_ _ | refine blk_drew ?_ | refine blk_alloc ?_ _)); exact BK338.out⟩, ⟨by repeat (first | (with_reducible first | exact HI327.out | apply IsS51.alloc | apply IsS51.drewN | apply IsS51.drew | apply IsS51.set_0 | apply IsS51.set_1 | apply IsS51.set_2 | apply IsS51.set_3 | apply IsS51.set_4 | apply IsS51.set_5 | apply IsS51.set_6 | refine IsS51.far ?_ NB327_338.out _) | exact HI327.out)⟩, ⟨by repeat (first | (with_reducible first | exact HB.out | apply below_alloc | apply pw_below_drewN | apply below_drew1 | refine below_set ?_ (IsS51.ge HI327.out) | refine below_set ?_ GE338.out) | exact HB.out)⟩⟩
        case rest =>
          clear HC12
          try clear c1
          try clear c2
          try clear p2
          try clear c5
          try clear c5b0
          try clear c5b1
          try clear c7
          try clear c9
          try clear c10
          try clear c12
          try clear c13
          try clear c13b0
          try clear hcz11_0
          try clear hcz11_1
          try clear hfz11_0
          try clear hfz11_1
          try clear p2
          obtain ⟨kq, x29_11, rfl, HA, HJ11, BK338, HI327, HB⟩ := hcut
          cases kq with
          | zero => exact absurd HA.out (by simp [scriptoriumlaw06_ClockRises.j1])
          | succ kj11 =>
            have H := HA.out
            clear HA
            simp only [scriptoriumlaw06_ClockRises.j1] at H
            by_cases c14 : x29_11 = true
            · subst c14
              have H1 : (if 0 ≤ x8_1 then (if x8_1 < (l1.length : Int) then ((scriptoriumlaw06_bring.f ((rd_T45 l1 x8_1).f0) ((rd_T45 l1 x8_1).f1) ((rd_T45 l1 x8_1).f2.f0) ((rd_T45 l1 x8_1).f2.f1)).bind fun bt341 => ((scriptoriumlaw06_does.f x328000_1 x328001_1 x328002_1 x328003_1 x328004_1 x328005_1 x328006_1 bt341.1 bt341.2.1 bt341.2.2.1 bt341.2.2.2).bind fun bt346 => (if bt346.2.2.1 = true then ((stamp_Less.f kj11 x339000_1 x339001_1 bt346.1 bt346.2.1).bind fun t357 => (if t357 = true then ((clock_Clock_Bound.f bt346.2.2.2.1 bt346.2.2.2.2.1 bt346.2.2.2.2.2.1 bt346.2.2.2.2.2.2.1 bt346.2.2.2.2.2.2.2.1 bt346.2.2.2.2.2.2.2.2.1 bt346.2.2.2.2.2.2.2.2.2).bind fun bt358 => (if bt346.1 ≥ bt358.1 then (some false) else ((clock_Clock_Reading.f bt358.2.1 bt358.2.2.1 bt358.2.2.2.1 bt358.2.2.2.2.1 bt358.2.2.2.2.2.1 bt358.2.2.2.2.2.2.1 bt358.2.2.2.2.2.2.2).bind fun bt366 => (if bt346.1 < bt366.1 then (some false) else (scriptoriumlaw06_ClockRises.j2 kj11 l1 x8_1 bt366.2.1 bt366.2.2.1 bt366.2.2.2.1 bt366.2.2.2.2.1 bt366.2.2.2.2.2.1 bt366.2.2.2.2.2.2.1 bt366.2.2.2.2.2.2.2 bt346.1 bt346.2.1))))) else (some false))) else (scriptoriumlaw06_ClockRises.j2 kj11 l1 x8_1 bt346.2.2.2.1 bt346.2.2.2.2.1 bt346.2.2.2.2.2.1 bt346.2.2.2.2.2.2.1 bt346.2.2.2.2.2.2.2.1 bt346.2.2.2.2.2.2.2.2.1 bt346.2.2.2.2.2.2.2.2.2 x339000_1 x339001_1)))) else (none)) else (none)) = some r := by rw [if_pos rfl] at H; exact H
              clear H
              have H := H1
              clear H1
              by_cases c15 : 0 ≤ x8_1
              · rw [if_pos c15] at H
                have c15b0 : decide (0 ≤ x8_1) = true := decide_eq_true c15
                clear c15
                by_cases c16 : x8_1 < (l1.length : Int)
                · rw [if_pos c16] at H
                  have c16b0 : decide (x8_1 < (l1.length : Int)) = true := decide_eq_true c16
                  clear c16
                  replace H := Option.bind_eq_some_iff.mp H
                  obtain ⟨⟨t341, t342, t343, t344⟩, A170, H⟩ := H
                  replace H : ((scriptoriumlaw06_does.f x328000_1 x328001_1 x328002_1 x328003_1 x328004_1 x328005_1 x328006_1 t341 t342 t343 t344).bind fun bt346 => (if bt346.2.2.1 = true then ((stamp_Less.f kj11 x339000_1 x339001_1 bt346.1 bt346.2.1).bind fun t357 => (if t357 = true then ((clock_Clock_Bound.f bt346.2.2.2.1 bt346.2.2.2.2.1 bt346.2.2.2.2.2.1 bt346.2.2.2.2.2.2.1 bt346.2.2.2.2.2.2.2.1 bt346.2.2.2.2.2.2.2.2.1 bt346.2.2.2.2.2.2.2.2.2).bind fun bt358 => (if bt346.1 ≥ bt358.1 then (some false) else ((clock_Clock_Reading.f bt358.2.1 bt358.2.2.1 bt358.2.2.2.1 bt358.2.2.2.2.1 bt358.2.2.2.2.2.1 bt358.2.2.2.2.2.2.1 bt358.2.2.2.2.2.2.2).bind fun bt366 => (if bt346.1 < bt366.1 then (some false) else (scriptoriumlaw06_ClockRises.j2 kj11 l1 x8_1 bt366.2.1 bt366.2.2.1 bt366.2.2.2.1 bt366.2.2.2.2.1 bt366.2.2.2.2.2.1 bt366.2.2.2.2.2.2.1 bt366.2.2.2.2.2.2.2 bt346.1 bt346.2.1))))) else (some false))) else (scriptoriumlaw06_ClockRises.j2 kj11 l1 x8_1 bt346.2.2.2.1 bt346.2.2.2.2.1 bt346.2.2.2.2.2.1 bt346.2.2.2.2.2.2.1 bt346.2.2.2.2.2.2.2.1 bt346.2.2.2.2.2.2.2.2.1 bt346.2.2.2.2.2.2.2.2.2 x339000_1 x339001_1))) = some r := H
                  have A17 := Aside0.mk A170
                  clear A170
                  replace H := Option.bind_eq_some_iff.mp H
                  obtain ⟨⟨t346, t347, t348, t349, t350, t351, t352, t353, t354, t355⟩, A180, H⟩ := H
                  replace H : (if t348 = true then ((stamp_Less.f kj11 x339000_1 x339001_1 t346 t347).bind fun t357 => (if t357 = true then ((clock_Clock_Bound.f t349 t350 t351 t352 t353 t354 t355).bind fun bt358 => (if t346 ≥ bt358.1 then (some false) else ((clock_Clock_Reading.f bt358.2.1 bt358.2.2.1 bt358.2.2.2.1 bt358.2.2.2.2.1 bt358.2.2.2.2.2.1 bt358.2.2.2.2.2.2.1 bt358.2.2.2.2.2.2.2).bind fun bt366 => (if t346 < bt366.1 then (some false) else (scriptoriumlaw06_ClockRises.j2 kj11 l1 x8_1 bt366.2.1 bt366.2.2.1 bt366.2.2.2.1 bt366.2.2.2.2.1 bt366.2.2.2.2.2.1 bt366.2.2.2.2.2.2.1 bt366.2.2.2.2.2.2.2 t346 t347))))) else (some false))) else (scriptoriumlaw06_ClockRises.j2 kj11 l1 x8_1 t349 t350 t351 t352 t353 t354 t355 x339000_1 x339001_1)) = some r := H
                  have A18 := Aside0.mk A180
                  clear A180
                  have HC19 := Aside0.mk H
                  clear H
                  have p340 : 0 ≤ (x8_1 : Int) := of_decide_eq_true (by first | (with_reducible assumption) | assumption)
                  have q340 : x8_1 < (l1.length : Int) := of_decide_eq_true (by first | (with_reducible assumption) | assumption)
                  obtain ⟨ad340, e340, hx340_0, hx340_1, hx340_2, hx340_3⟩ := at_T45 HR1.out x8_1 p340 q340
                  cases e340
                  replace hx340_0 := (HB.out.cell (World.block_lt_of_cell? w _ hx340_0)).trans hx340_0
                  replace hx340_1 := (HB.out.cell (World.block_lt_of_cell? w _ hx340_1)).trans hx340_1
                  replace hx340_2 := (HB.out.cell (World.block_lt_of_cell? w _ hx340_2)).trans hx340_2
                  replace hx340_3 := (HB.out.cell (World.block_lt_of_cell? w _ hx340_3)).trans hx340_3
                  replace p340 := eq_true p340
                  replace q340 := eq_true q340
                  go_upto_if 43 with (first | ((with_reducible refine gate_callee (f := 23) rfl ?_); refine goesL_ (some 36) rfl rfl Try.func23 (by kernel_rfl) rfl #[.agg #[.int .i64 ((rd_T45 l1 x8_1).f0), .int .i64 ((rd_T45 l1 x8_1).f1), .int .i64 ((rd_T45 l1 x8_1).f2.f0), .int .i64 ((rd_T45 l1 x8_1).f2.f1)]] rfl (by (try simp only [List.map_toArray, List.map_cons, List.map_nil]); first | done | rfl | (simp only [List.length_drop, List.length_take]; rfl)) ?_; (with_reducible refine (scriptoriumlaw06_bring.calls ((rd_T45 l1 x8_1).f0) ((rd_T45 l1 x8_1).f1) ((rd_T45 l1 x8_1).f2.f0) ((rd_T45 l1 x8_1).f2.f1) t341 t342 t343 t344 _ A17.out).mono ?_); rintro e w20 ⟨rfl, hb⟩; refine ⟨_, rfl, ?_⟩; have n0_ := Aside0.mk (blk_below (g := gb338) (o := .cells #[.int .i64 x339000_1, .int .i64 x339001_1] 33 (0, 0)) (by (with_reducible repeat (first | refine blk_drewN ?_ _ | refine blk_drew ?_ | refine blk_alloc ?_ _)); exact BK338.out) hb); have n1_ := Aside0.mk (IsS51.below (by repeat (first | (with_reducible first | exact HI327.out | apply IsS51.alloc | apply IsS51.drewN | apply IsS51.drew | apply IsS51.set_0 | apply IsS51.set_1 | apply IsS51.set_2 | apply IsS51.set_3 | apply IsS51.set_4 | apply IsS51.set_5 | apply IsS51.set_6 | refine IsS51.far ?_ NB327_338.out _) | exact HI327.out)) hb); have n2_ := Aside0.mk (below_step (by repeat (first | (with_reducible first | exact HB.out | apply below_alloc | apply pw_below_drewN | apply below_drew1 | refine below_set ?_ (IsS51.ge HI327.out) | refine below_set ?_ GE338.out) | exact HB.out)) hb); clear BK338; clear HI327; clear HB; have BK338 := n0_; have HI327 := n1_; have HB := n2_; clear n0_ n1_ n2_; (try clear hb); (try clear hb2); (try clear hk); (try clear hi); (try clear hgn)) | ((with_reducible refine gate_dst (N := 9) rfl ?_); (try (refine gate_guard (by rfl) ?_; dsimp only)); refine box_event ?hg (N := 9) ?hd (cs := #[.int .i64 0, .int .i64 0, .int .i64 0, .int .i64 0]) (t := 45) ?hr ?_; (case hd => rfl); (case hg => rfl); (case hr => first | (go_simp; done) | (go_simp; rfl)); intro gb345 hg w21 hbox hb; have n0_ := Aside0.mk (blk_below (g := gb338) (o := .cells #[.int .i64 x339000_1, .int .i64 x339001_1] 33 (0, 0)) (by (with_reducible repeat (first | refine blk_drewN ?_ _ | refine blk_drew ?_ | refine blk_alloc ?_ _)); exact BK338.out) hb); have n1_ := Aside0.mk (IsS51.below (by repeat (first | (with_reducible first | exact HI327.out | apply IsS51.alloc | apply IsS51.drewN | apply IsS51.drew | apply IsS51.set_0 | apply IsS51.set_1 | apply IsS51.set_2 | apply IsS51.set_3 | apply IsS51.set_4 | apply IsS51.set_5 | apply IsS51.set_6 | refine IsS51.far ?_ NB327_338.out _) | exact HI327.out)) hb); have n2_ := Aside0.mk (below_step (by repeat (first | (with_reducible first | exact HB.out | apply below_alloc | apply pw_below_drewN | apply below_drew1 | refine below_set ?_ (IsS51.ge HI327.out) | refine below_set ?_ GE338.out) | exact HB.out)) hb); have n3_ := Aside0.mk (hbox); have n4_ := Aside0.mk ((by rw [hg]; exact (below_size (by repeat (first | (with_reducible first | exact HB.out | apply below_alloc | apply pw_below_drewN | apply below_drew1 | refine below_set ?_ (IsS51.ge HI327.out) | refine below_set ?_ GE338.out) | exact HB.out))) : w.heap.size ≤ gb345)); have n5_ := Aside0.mk ((by rw [hg]; exact (below_size (by repeat (first | (with_reducible first | exact HB.out | apply below_alloc | apply pw_below_drewN | apply below_drew1 | refine below_set ?_ (IsS51.ge HI327.out) | refine below_set ?_ GE338.out) | exact HB.out))) : w.heap.size ≤ gb345)); have n6_ := Aside0.mk ((by rw [hg]; exact Nat.ne_of_lt (blk_lt (g := gb338) (o := .cells #[.int .i64 x339000_1, .int .i64 x339001_1] 33 (0, 0)) (by (with_reducible repeat (first | refine blk_drewN ?_ _ | refine blk_drew ?_ | refine blk_alloc ?_ _)); exact BK338.out)) : gb338 ≠ gb345)); have n7_ := Aside0.mk ((by rw [hg]; exact Nat.ne_of_gt (blk_lt (g := gb338) (o := .cells #[.int .i64 x339000_1, .int .i64 x339001_1] 33 (0, 0)) (by (with_reducible repeat (first | refine blk_drewN ?_ _ | refine blk_drew ?_ | refine blk_alloc ?_ _)); exact BK338.out)) : gb345 ≠ gb338)); have n8_ := Aside0.mk ((by rw [hg]; exact Nat.ne_of_lt (IsS51.lt (show IsS51 w _ g327 x328000_1 x328001_1 x328002_1 x328003_1 x328004_1 x328005_1 x328006_1 from by repeat (first | (with_reducible first | exact HI327.out | apply IsS51.alloc | apply IsS51.drewN | apply IsS51.drew | apply IsS51.set_0 | apply IsS51.set_1 | apply IsS51.set_2 | apply IsS51.set_3 | apply IsS51.set_4 | apply IsS51.set_5 | apply IsS51.set_6 | refine IsS51.far ?_ NB327_338.out _) | exact HI327.out))) : g327 ≠ gb345)); have n9_ := Aside0.mk ((by rw [hg]; exact Nat.ne_of_gt (IsS51.lt (show IsS51 w _ g327 x328000_1 x328001_1 x328002_1 x328003_1 x328004_1 x328005_1 x328006_1 from by repeat (first | (with_reducible first | exact HI327.out | apply IsS51.alloc | apply IsS51.drewN | apply IsS51.drew | apply IsS51.set_0 | apply IsS51.set_1 | apply IsS51.set_2 | apply IsS51.set_3 | apply IsS51.set_4 | apply IsS51.set_5 | apply IsS51.set_6 | refine IsS51.far ?_ NB327_338.out _) | exact HI327.out))) : gb345 ≠ g327)); clear BK338; clear HI327; clear HB; have BK338 := n0_; have HI327 := n1_; have HB := n2_; have BK345 := n3_; have GW345 := n4_; have GE345 := n5_; have NB338_345 := n6_; have NB345_338 := n7_; have NB327_345 := n8_; have NB345_327 := n9_; clear n0_ n1_ n2_ n3_ n4_ n5_ n6_ n7_ n8_ n9_; clear hb hbox hg; have hnb22 := NB345_338.out; have hnc22 := NB338_345.out; have hnb23 := NB345_327.out; have hnc23 := NB327_345.out; have hcz24_0 : w21.cell? ⟨gb345, 0, none⟩ = some (.int .i64 0) := (blk_cell BK345.out 0).trans rfl; have hcz24_1 : w21.cell? ⟨gb345, 1, none⟩ = some (.int .i64 0) := (blk_cell BK345.out 1).trans rfl; have hcz24_2 : w21.cell? ⟨gb345, 2, none⟩ = some (.int .i64 0) := (blk_cell BK345.out 2).trans rfl; have hcz24_3 : w21.cell? ⟨gb345, 3, none⟩ = some (.int .i64 0) := (blk_cell BK345.out 3).trans rfl; have hfz24_0 := blk_frozen BK345.out 0; have hfz24_1 := blk_frozen BK345.out 1; have hfz24_2 := blk_frozen BK345.out 2; have hfz24_3 := blk_frozen BK345.out 3) | ((with_reducible refine gate_callee (f := 24) rfl ?_); refine goesL_ (some 40) rfl rfl Try.func24 (by kernel_rfl) rfl #[.pointer (some ⟨g327, 0, none⟩), .agg #[.int .i64 t341, .int .i64 t342, .int .i64 t343, .int .i64 t344]] rfl (by (try simp only [List.map_toArray, List.map_cons, List.map_nil]); first | done | rfl | (simp only [List.length_drop, List.length_take]; rfl)) ?_; (with_reducible refine (scriptoriumlaw06_does.calls g327 x328000_1 x328001_1 x328002_1 x328003_1 x328004_1 x328005_1 x328006_1 t341 t342 t343 t344 t346 t347 t348 t349 t350 t351 t352 t353 t354 t355 w _ ?side1 ?side2 A18.out).mono ?_); (case side1 => repeat (first | (with_reducible first | exact HI327.out | apply IsS51.alloc | apply IsS51.drewN | apply IsS51.drew | apply IsS51.set_0 | apply IsS51.set_1 | apply IsS51.set_2 | apply IsS51.set_3 | apply IsS51.set_4 | apply IsS51.set_5 | apply IsS51.set_6 | refine IsS51.far ?_ NB327_338.out _ | refine IsS51.far ?_ NB327_345.out _) | exact HI327.out)); (case side2 => repeat (first | (with_reducible first | exact HB.out | apply below_alloc | apply pw_below_drewN | apply below_drew1 | refine below_set ?_ (IsS51.ge HI327.out) | refine below_set ?_ GE338.out | refine below_set ?_ GE345.out) | exact HB.out)); rintro e w25 ⟨rfl, hi, hb, hk⟩; refine ⟨_, rfl, ?_⟩; have n0_ := Aside0.mk (KeepBut.blk hk (g' := gb338) (o := .cells #[.int .i64 x339000_1, .int .i64 x339001_1] 33 (0, 0)) (by (with_reducible repeat (first | refine blk_drewN ?_ _ | refine blk_drew ?_ | refine blk_alloc ?_ _)); refine blk_far ?_ NB338_345.out _; (with_reducible repeat (first | refine blk_drewN ?_ _ | refine blk_drew ?_ | refine blk_alloc ?_ _)); refine blk_far ?_ NB338_345.out _; (with_reducible repeat (first | refine blk_drewN ?_ _ | refine blk_drew ?_ | refine blk_alloc ?_ _)); refine blk_far ?_ NB338_345.out _; (with_reducible repeat (first | refine blk_drewN ?_ _ | refine blk_drew ?_ | refine blk_alloc ?_ _)); refine blk_far ?_ NB338_345.out _; (with_reducible repeat (first | refine blk_drewN ?_ _ | refine blk_drew ?_ | refine blk_alloc ?_ _)); exact BK338.out) NB338_327.out (by simp)); have n1_ := Aside0.mk (KeepBut.blk hk (g' := gb345) (o := .cells #[.int .i64 t341, .int .i64 t342, .int .i64 t343, .int .i64 t344] 45 (0, 0)) (by (with_reducible repeat (first | refine blk_drewN ?_ _ | refine blk_drew ?_ | refine blk_alloc ?_ _)); refine blk_put (cs := #[.int .i64 t341, .int .i64 t342, .int .i64 t343, .int .i64 0]) ?_ 3 _ rfl; (with_reducible repeat (first | refine blk_drewN ?_ _ | refine blk_drew ?_ | refine blk_alloc ?_ _)); refine blk_put (cs := #[.int .i64 t341, .int .i64 t342, .int .i64 0, .int .i64 0]) ?_ 2 _ rfl; (with_reducible repeat (first | refine blk_drewN ?_ _ | refine blk_drew ?_ | refine blk_alloc ?_ _)); refine blk_put (cs := #[.int .i64 t341, .int .i64 0, .int .i64 0, .int .i64 0]) ?_ 1 _ rfl; (with_reducible repeat (first | refine blk_drewN ?_ _ | refine blk_drew ?_ | refine blk_alloc ?_ _)); refine blk_put (cs := #[.int .i64 0, .int .i64 0, .int .i64 0, .int .i64 0]) ?_ 0 _ rfl; (with_reducible repeat (first | refine blk_drewN ?_ _ | refine blk_drew ?_ | refine blk_alloc ?_ _)); exact BK345.out) NB345_327.out (by simp)); have n2_ := Aside0.mk (hb); have n3_ := Aside0.mk (hi); clear BK338; clear BK345; clear HB; clear HI327; have BK338 := n0_; have BK345 := n1_; have HB := n2_; have HI327 := n3_; clear n0_ n1_ n2_ n3_; (try clear hb); (try clear hb2); (try clear hk); (try clear hi); (try clear hgn)) | ((with_reducible refine gate_dst (N := 10) rfl ?_); (try (refine gate_guard (by rfl) ?_; dsimp only)); refine box_event ?hg (N := 10) ?hd (cs := #[.int .i64 0, .int .i64 0]) (t := 33) ?hr ?_; (case hd => rfl); (case hg => rfl); (case hr => first | (go_simp; done) | (go_simp; rfl)); intro gb356 hg w26 hbox hb; have n0_ := Aside0.mk (blk_below (g := gb338) (o := .cells #[.int .i64 x339000_1, .int .i64 x339001_1] 33 (0, 0)) (by (with_reducible repeat (first | refine blk_drewN ?_ _ | refine blk_drew ?_ | refine blk_alloc ?_ _)); exact BK338.out) hb); have n1_ := Aside0.mk (IsS51.below (by repeat (first | (with_reducible first | exact HI327.out | apply IsS51.alloc | apply IsS51.drewN | apply IsS51.drew | apply IsS51.set_0 | apply IsS51.set_1 | apply IsS51.set_2 | apply IsS51.set_3 | apply IsS51.set_4 | apply IsS51.set_5 | apply IsS51.set_6 | refine IsS51.far ?_ NB327_338.out _ | refine IsS51.far ?_ NB327_345.out _) | exact HI327.out)) hb); have n2_ := Aside0.mk (blk_below (g := gb345) (o := .cells #[.int .i64 t341, .int .i64 t342, .int .i64 t343, .int .i64 t344] 45 (0, 0)) (by (with_reducible repeat (first | refine blk_drewN ?_ _ | refine blk_drew ?_ | refine blk_alloc ?_ _)); exact BK345.out) hb); have n3_ := Aside0.mk (below_step (by repeat (first | (with_reducible first | exact HB.out | apply below_alloc | apply pw_below_drewN | apply below_drew1 | refine below_set ?_ (IsS51.ge HI327.out) | refine below_set ?_ GE338.out | refine below_set ?_ GE345.out) | exact HB.out)) hb); have n4_ := Aside0.mk (hbox); have n5_ := Aside0.mk ((by rw [hg]; exact (below_size (by repeat (first | (with_reducible first | exact HB.out | apply below_alloc | apply pw_below_drewN | apply below_drew1 | refine below_set ?_ (IsS51.ge HI327.out) | refine below_set ?_ GE338.out | refine below_set ?_ GE345.out) | exact HB.out))) : w.heap.size ≤ gb356)); have n6_ := Aside0.mk ((by rw [hg]; exact (below_size (by repeat (first | (with_reducible first | exact HB.out | apply below_alloc | apply pw_below_drewN | apply below_drew1 | refine below_set ?_ (IsS51.ge HI327.out) | refine below_set ?_ GE338.out | refine below_set ?_ GE345.out) | exact HB.out))) : w.heap.size ≤ gb356)); have n7_ := Aside0.mk ((by rw [hg]; exact Nat.ne_of_lt (blk_lt (g := gb338) (o := .cells #[.int .i64 x339000_1, .int .i64 x339001_1] 33 (0, 0)) (by (with_reducible repeat (first | refine blk_drewN ?_ _ | refine blk_drew ?_ | refine blk_alloc ?_ _)); exact BK338.out)) : gb338 ≠ gb356)); have n8_ := Aside0.mk ((by rw [hg]; exact Nat.ne_of_gt (blk_lt (g := gb338) (o := .cells #[.int .i64 x339000_1, .int .i64 x339001_1] 33 (0, 0)) (by (with_reducible repeat (first | refine blk_drewN ?_ _ | refine blk_drew ?_ | refine blk_alloc ?_ _)); exact BK338.out)) : gb356 ≠ gb338)); have n9_ := Aside0.mk ((by rw [hg]; exact Nat.ne_of_lt (blk_lt (g := gb345) (o := .cells #[.int .i64 t341, .int .i64 t342, .int .i64 t343, .int .i64 t344] 45 (0, 0)) (by (with_reducible repeat (first | refine blk_drewN ?_ _ | refine blk_drew ?_ | refine blk_alloc ?_ _)); exact BK345.out)) : gb345 ≠ gb356)); have n10_ := Aside0.mk ((by rw [hg]; exact Nat.ne_of_gt (blk_lt (g := gb345) (o := .cells #[.int .i64 t341, .int .i64 t342, .int .i64 t343, .int .i64 t344] 45 (0, 0)) (by (with_reducible repeat (first | refine blk_drewN ?_ _ | refine blk_drew ?_ | refine blk_alloc ?_ _)); exact BK345.out)) : gb356 ≠ gb345)); have n11_ := Aside0.mk ((by rw [hg]; exact Nat.ne_of_lt (IsS51.lt (show IsS51 w _ g327 t349 t350 t351 t352 t353 t354 t355 from by repeat (first | (with_reducible first | exact HI327.out | apply IsS51.alloc | apply IsS51.drewN | apply IsS51.drew | apply IsS51.set_0 | apply IsS51.set_1 | apply IsS51.set_2 | apply IsS51.set_3 | apply IsS51.set_4 | apply IsS51.set_5 | apply IsS51.set_6 | refine IsS51.far ?_ NB327_338.out _ | refine IsS51.far ?_ NB327_345.out _) | exact HI327.out))) : g327 ≠ gb356)); have n12_ := Aside0.mk ((by rw [hg]; exact Nat.ne_of_gt (IsS51.lt (show IsS51 w _ g327 t349 t350 t351 t352 t353 t354 t355 from by repeat (first | (with_reducible first | exact HI327.out | apply IsS51.alloc | apply IsS51.drewN | apply IsS51.drew | apply IsS51.set_0 | apply IsS51.set_1 | apply IsS51.set_2 | apply IsS51.set_3 | apply IsS51.set_4 | apply IsS51.set_5 | apply IsS51.set_6 | refine IsS51.far ?_ NB327_338.out _ | refine IsS51.far ?_ NB327_345.out _) | exact HI327.out))) : gb356 ≠ g327)); clear BK338; clear HI327; clear BK345; clear HB; have BK338 := n0_; have HI327 := n1_; have BK345 := n2_; have HB := n3_; have BK356 := n4_; have GW356 := n5_; have GE356 := n6_; have NB338_356 := n7_; have NB356_338 := n8_; have NB345_356 := n9_; have NB356_345 := n10_; have NB327_356 := n11_; have NB356_327 := n12_; clear n0_ n1_ n2_ n3_ n4_ n5_ n6_ n7_ n8_ n9_ n10_ n11_ n12_; clear hb hbox hg; have hnb27 := NB356_338.out; have hnc27 := NB338_356.out; have hnb28 := NB356_345.out; have hnc28 := NB345_356.out; have hnb29 := NB356_327.out; have hnc29 := NB327_356.out; have hcz30_0 : w26.cell? ⟨gb356, 0, none⟩ = some (.int .i64 0) := (blk_cell BK356.out 0).trans rfl; have hcz30_1 : w26.cell? ⟨gb356, 1, none⟩ = some (.int .i64 0) := (blk_cell BK356.out 1).trans rfl; have hfz30_0 := blk_frozen BK356.out 0; have hfz30_1 := blk_frozen BK356.out 1))
                  (try simp only [Act.put, List.setIfInBounds_toArray, List.set_cons_zero, List.set_cons_succ])
                  go_cut [] (fun wc => ∃ (kq : Nat) (x328000_18 : Int) (x328001_18 : Int) (x328002_18 : Int) (x328003_18 : Int) (x328004_18 : Int) (x328005_18 : Int) (x328006_18 : Bool) (x339000_18 : Int) (x339001_18 : Int), Aside0 (scriptoriumlaw06_ClockRises.j2 kq l1 x8_1 x328000_18 x328001_18 x328002_18 x328003_18 x328004_18 x328005_18 x328006_18 x339000_18 x339001_18 = some r) ∧ Aside0 (kq ≤ kj11) ∧ Aside0 (wc.heap[gb338]? = some (.cells #[.int .i64 x339000_18, .int .i64 x339001_18] 33 (0, 0))) ∧ Aside0 (wc.heap[gb345]? = some (.cells #[.int .i64 t341, .int .i64 t342, .int .i64 t343, .int .i64 t344] 45 (0, 0))) ∧ Aside0 (wc.heap[gb356]? = some (.cells #[.int .i64 t346, .int .i64 t347] 33 (0, 0))) ∧ Aside0 (IsS51 w wc g327 x328000_18 x328001_18 x328002_18 x328003_18 x328004_18 x328005_18 x328006_18) ∧ Aside0 (Below w.heap.size w wc))
                  case first =>
                    have H := HC19.out
                    clear HC19
                    by_cases c31 : t348 = true
                    · subst c31
                      have H1 : ((stamp_Less.f kj11 x339000_1 x339001_1 t346 t347).bind fun t357 => (if t357 = true then ((clock_Clock_Bound.f t349 t350 t351 t352 t353 t354 t355).bind fun bt358 => (if t346 ≥ bt358.1 then (some false) else ((clock_Clock_Reading.f bt358.2.1 bt358.2.2.1 bt358.2.2.2.1 bt358.2.2.2.2.1 bt358.2.2.2.2.2.1 bt358.2.2.2.2.2.2.1 bt358.2.2.2.2.2.2.2).bind fun bt366 => (if t346 < bt366.1 then (some false) else (scriptoriumlaw06_ClockRises.j2 kj11 l1 x8_1 bt366.2.1 bt366.2.2.1 bt366.2.2.2.1 bt366.2.2.2.2.1 bt366.2.2.2.2.2.1 bt366.2.2.2.2.2.2.1 bt366.2.2.2.2.2.2.2 t346 t347))))) else (some false))) = some r := by rw [if_pos rfl] at H; exact H
                      clear H
                      have H := H1
                      clear H1
                      replace H := Option.bind_eq_some_iff.mp H
                      obtain ⟨t357, A320, H⟩ := H
                      replace H : (if t357 = true then ((clock_Clock_Bound.f t349 t350 t351 t352 t353 t354 t355).bind fun bt358 => (if t346 ≥ bt358.1 then (some false) else ((clock_Clock_Reading.f bt358.2.1 bt358.2.2.1 bt358.2.2.2.1 bt358.2.2.2.2.1 bt358.2.2.2.2.2.1 bt358.2.2.2.2.2.2.1 bt358.2.2.2.2.2.2.2).bind fun bt366 => (if t346 < bt366.1 then (some false) else (scriptoriumlaw06_ClockRises.j2 kj11 l1 x8_1 bt366.2.1 bt366.2.2.1 bt366.2.2.2.1 bt366.2.2.2.2.1 bt366.2.2.2.2.2.1 bt366.2.2.2.2.2.2.1 bt366.2.2.2.2.2.2.2 t346 t347))))) else (some false)) = some r := H
                      have A32 := Aside0.mk A320
                      clear A320
                      by_cases c33 : t357 = true
                      · subst c33
                        have H1 : ((clock_Clock_Bound.f t349 t350 t351 t352 t353 t354 t355).bind fun bt358 => (if t346 ≥ bt358.1 then (some false) else ((clock_Clock_Reading.f bt358.2.1 bt358.2.2.1 bt358.2.2.2.1 bt358.2.2.2.2.1 bt358.2.2.2.2.2.1 bt358.2.2.2.2.2.2.1 bt358.2.2.2.2.2.2.2).bind fun bt366 => (if t346 < bt366.1 then (some false) else (scriptoriumlaw06_ClockRises.j2 kj11 l1 x8_1 bt366.2.1 bt366.2.2.1 bt366.2.2.2.1 bt366.2.2.2.2.1 bt366.2.2.2.2.2.1 bt366.2.2.2.2.2.2.1 bt366.2.2.2.2.2.2.2 t346 t347))))) = some r := by rw [if_pos rfl] at H; exact H
                        clear H
                        have H := H1
                        clear H1
                        replace H := Option.bind_eq_some_iff.mp H
                        obtain ⟨⟨t358, t359, t360, t361, t362, t363, t364, t365⟩, A340, H⟩ := H
                        replace H : (if t346 ≥ t358 then (some false) else ((clock_Clock_Reading.f t359 t360 t361 t362 t363 t364 t365).bind fun bt366 => (if t346 < bt366.1 then (some false) else (scriptoriumlaw06_ClockRises.j2 kj11 l1 x8_1 bt366.2.1 bt366.2.2.1 bt366.2.2.2.1 bt366.2.2.2.2.1 bt366.2.2.2.2.2.1 bt366.2.2.2.2.2.2.1 bt366.2.2.2.2.2.2.2 t346 t347)))) = some r := H
                        have A34 := Aside0.mk A340
                        clear A340
                        by_cases c35 : t346 ≥ t358
                        · rw [if_pos c35] at H
                          have c35b0 : decide (t358 ≤ t346) = true := decide_eq_true c35
                          clear c35
                          (first | rw [c35b0] | (simp only [i64_w, i32_w]; rw [c35b0]) | skip)
                          exact absurd (Option.some.inj (H.trans (congrArg some hrt))) (by decide)
                        · rw [if_neg c35] at H
                          have c35b0 : decide (t358 ≤ t346) = false := decide_eq_false c35
                          clear c35
                          (first | rw [c35b0] | (simp only [i64_w, i32_w]; rw [c35b0]) | skip)
                          replace H := Option.bind_eq_some_iff.mp H
                          obtain ⟨⟨t366, t367, t368, t369, t370, t371, t372, t373⟩, A360, H⟩ := H
                          replace H : (if t346 < t366 then (some false) else (scriptoriumlaw06_ClockRises.j2 kj11 l1 x8_1 t367 t368 t369 t370 t371 t372 t373 t346 t347)) = some r := H
                          have A36 := Aside0.mk A360
                          clear A360
                          by_cases c37 : t346 < t366
                          · rw [if_pos c37] at H
                            have c37b0 : decide (t346 < t366) = true := decide_eq_true c37
                            clear c37
                            exact absurd (Option.some.inj (H.trans (congrArg some hrt))) (by decide)
                          · rw [if_neg c37] at H
                            have c37b0 : decide (t346 < t366) = false := decide_eq_false c37
                            clear c37
                            have H' := Aside0.mk H
                            clear H
                            try go_wp2
                            have n0_ : Aside0 (((w26.setCell ⟨gb356, 0, none⟩ (.int .i64 t346)).setCell ⟨gb356, 1, none⟩ (.int .i64 t347)).heap[gb338]? = some (.cells #[.int .i64 x339000_1, .int .i64 x339001_1] 33 (0, 0))) := ⟨by (with_reducible repeat (first | refine blk_drewN ?_ _ | refine blk_drew ?_ | refine blk_alloc ?_ _)); refine blk_far ?_ NB338_356.out _; (with_reducible repeat (first | refine blk_drewN ?_ _ | refine blk_drew ?_ | refine blk_alloc ?_ _)); refine blk_far ?_ NB338_356.out _; (with_reducible repeat (first | refine blk_drewN ?_ _ | refine blk_drew ?_ | refine blk_alloc ?_ _)); exact BK338.out⟩
                            have n1_ : Aside0 (((w26.setCell ⟨gb356, 0, none⟩ (.int .i64 t346)).setCell ⟨gb356, 1, none⟩ (.int .i64 t347)).heap[gb345]? = some (.cells #[.int .i64 t341, .int .i64 t342, .int .i64 t343, .int .i64 t344] 45 (0, 0))) := ⟨by (with_reducible repeat (first | refine blk_drewN ?_ _ | refine blk_drew ?_ | refine blk_alloc ?_ _)); refine blk_far ?_ NB345_356.out _; (with_reducible repeat (first | refine blk_drewN ?_ _ | refine blk_drew ?_ | refine blk_alloc ?_ _)); refine blk_far ?_ NB345_356.out _; (with_reducible repeat (first | refine blk_drewN ?_ _ | refine blk_drew ?_ | refine blk_alloc ?_ _)); exact BK345.out⟩
                            have n2_ : Aside0 (((w26.setCell ⟨gb356, 0, none⟩ (.int .i64 t346)).setCell ⟨gb356, 1, none⟩ (.int .i64 t347)).heap[gb356]? = some (.cells #[.int .i64 t346, .int .i64 t347] 33 (0, 0))) := ⟨by (with_reducible repeat (first | refine blk_drewN ?_ _ | refine blk_drew ?_ | refine blk_alloc ?_ _)); refine blk_put (cs := #[.int .i64 t346, .int .i64 0]) ?_ 1 _ rfl; (with_reducible repeat (first | refine blk_drewN ?_ _ | refine blk_drew ?_ | refine blk_alloc ?_ _)); refine blk_put (cs := #[.int .i64 0, .int .i64 0]) ?_ 0 _ rfl; (with_reducible repeat (first | refine blk_drewN ?_ _ | refine blk_drew ?_ | refine blk_alloc ?_ _)); exact BK356.out⟩
                            have n3_ : Aside0 (IsS51 w ((w26.setCell ⟨gb356, 0, none⟩ (.int .i64 t346)).setCell ⟨gb356, 1, none⟩ (.int .i64 t347)) g327 t349 t350 t351 t352 t353 t354 t355) := ⟨by repeat (first | (with_reducible first | exact HI327.out | apply IsS51.alloc | apply IsS51.drewN | apply IsS51.drew | apply IsS51.set_0 | apply IsS51.set_1 | apply IsS51.set_2 | apply IsS51.set_3 | apply IsS51.set_4 | apply IsS51.set_5 | apply IsS51.set_6 | refine IsS51.far ?_ NB327_338.out _ | refine IsS51.far ?_ NB327_345.out _ | refine IsS51.far ?_ NB327_356.out _) | exact HI327.out)⟩
                            have n4_ : Aside0 (Below w.heap.size w ((w26.setCell ⟨gb356, 0, none⟩ (.int .i64 t346)).setCell ⟨gb356, 1, none⟩ (.int .i64 t347))) := ⟨by repeat (first | (with_reducible first | exact HB.out | apply below_alloc | apply pw_below_drewN | apply below_drew1 | refine below_set ?_ (IsS51.ge HI327.out) | refine below_set ?_ GE338.out | refine below_set ?_ GE345.out | refine below_set ?_ GE356.out) | exact HB.out)⟩
                            (try clear BK338)
                            (try clear BK345)
                            (try clear BK356)
                            (try clear HI327)
                            (try clear HB)
                            generalize ((w26.setCell ⟨gb356, 0, none⟩ (.int .i64 t346)).setCell ⟨gb356, 1, none⟩ (.int .i64 t347)) = w38 at n0_ n1_ n2_ n3_ n4_ ⊢
                            have BK338 := n0_
                            have BK345 := n1_
                            have BK356 := n2_
                            have HI327 := n3_
                            have HB := n4_
                            clear n0_ n1_ n2_ n3_ n4_
                            have n0_ := Aside0.mk (blk_drew BK338.out)
                            have n1_ := Aside0.mk (blk_drew BK345.out)
                            have n2_ := Aside0.mk (blk_drew BK356.out)
                            have n3_ := Aside0.mk (IsS51.drew HI327.out)
                            have n4_ := Aside0.mk (below_drew1 HB.out)
                            clear BK338
                            clear BK345
                            clear BK356
                            clear HI327
                            clear HB
                            have BK338 := n0_
                            have BK345 := n1_
                            have BK356 := n2_
                            have HI327 := n3_
                            have HB := n4_
                            clear n0_ n1_ n2_ n3_ n4_
                            refine start_ (n := 18) (S := fun w' => w'.cell? ⟨gb338, 0, none⟩ = some (.int .i64 x339000_1) ∧ w'.cell? ⟨gb338, 1, none⟩ = some (.int .i64 x339001_1) ∧ w'.cell? ⟨gb356, 0, none⟩ = some (.int .i64 t346) ∧ w'.cell? ⟨gb356, 1, none⟩ = some (.int .i64 t347)) (ds := []) #[false, false, false, false, false, false, false, false, false, false, false, false, false, false, false, false, false, false] (by kernel_rfl) rfl rfl ⟨(blk_cell BK338.out 0).trans rfl, (blk_cell BK338.out 1).trans rfl, (blk_cell BK356.out 0).trans rfl, (blk_cell BK356.out 1).trans rfl⟩ (fun hHeld => ?_); refine with_tabW scriptoriumlaw06_ClockRises.tab11 scriptoriumlaw06_ClockRises.bits11 (fun HT_ HW_ => ?_)
                            generalize w38.drew = w39 at BK338 BK345 BK356 HI327 HB hHeld ⊢
                            refine take_ (i := 0) (N := some 44) (v := ?_) (a' := ?_) #[true, false, false, false, false, false, false, false, false, false, false, false, false, false, false, false, false, false] rfl rfl (take_ofW HT_.out HW_.out (by kernel_rfl)) (fun _ _ _ h => h) (Or.inl ⟨by rfl, ?_⟩) hHeld ?_ ?_
                            rotate_left
                            · rintro w' ⟨s0, s1, s2, s3⟩
                              go_simp
                              with_reducible rfl
                            rotate_left
                            · simp only [Act.put, List.setIfInBounds_toArray, List.set_cons_zero, List.set_cons_succ, i64_w, i32_w]
                              rfl
                            refine take_ (i := 1) (N := some 45) (v := ?_) (a' := ?_) #[true, true, false, false, false, false, false, false, false, false, false, false, false, false, false, false, false, false] rfl rfl (take_ofW HT_.out HW_.out (by kernel_rfl)) (fun _ _ _ h => h) (Or.inl ⟨by rfl, ?_⟩) hHeld ?_ ?_
                            rotate_left
                            · rintro w' ⟨s0, s1, s2, s3⟩
                              go_simp
                              with_reducible rfl
                            rotate_left
                            · simp only [Act.put, List.setIfInBounds_toArray, List.set_cons_zero, List.set_cons_succ, i64_w, i32_w]
                              rfl
                            refine one_ (i := 2) (N := some 46) #[true, true, true, false, false, false, false, false, false, false, false, false, false, false, false, false, false, false] rfl rfl (one_of HT_.out (by kernel_rfl)) (by decide) (fun K hK => ?_)
                            refine goes_ Try.func25 (by kernel_rfl) rfl #[.agg #[.int .i64 x339000_1, .int .i64 x339001_1], .agg #[.int .i64 t346, .int .i64 t347]] (by rfl) rfl rfl (by (try simp only [List.map_toArray, List.map_cons, List.map_nil]); first | done | rfl | (simp only [List.length_drop, List.length_take]; rfl)) ?_
                            with_reducible refine (stamp_Less.calls kj11 x339000_1 x339001_1 t346 t347 true _ A32.out).mono ?_
                            rintro e w40 ⟨rfl, hb⟩
                            refine ⟨_, rfl, ?_⟩
                            have n0_ := Aside0.mk (blk_below (g := gb338) (o := .cells #[.int .i64 x339000_1, .int .i64 x339001_1] 33 (0, 0)) (by (with_reducible repeat (first | refine blk_drewN ?_ _ | refine blk_drew ?_ | refine blk_alloc ?_ _)); exact BK338.out) hb)
                            have n1_ := Aside0.mk (IsS51.below (by repeat (first | (with_reducible first | exact HI327.out | apply IsS51.alloc | apply IsS51.drewN | apply IsS51.drew | apply IsS51.set_0 | apply IsS51.set_1 | apply IsS51.set_2 | apply IsS51.set_3 | apply IsS51.set_4 | apply IsS51.set_5 | apply IsS51.set_6 | refine IsS51.far ?_ NB327_338.out _ | refine IsS51.far ?_ NB327_345.out _ | refine IsS51.far ?_ NB327_356.out _) | exact HI327.out)) hb)
                            have n2_ := Aside0.mk (blk_below (g := gb345) (o := .cells #[.int .i64 t341, .int .i64 t342, .int .i64 t343, .int .i64 t344] 45 (0, 0)) (by (with_reducible repeat (first | refine blk_drewN ?_ _ | refine blk_drew ?_ | refine blk_alloc ?_ _)); exact BK345.out) hb)
                            have n3_ := Aside0.mk (blk_below (g := gb356) (o := .cells #[.int .i64 t346, .int .i64 t347] 33 (0, 0)) (by (with_reducible repeat (first | refine blk_drewN ?_ _ | refine blk_drew ?_ | refine blk_alloc ?_ _)); exact BK356.out) hb)
                            have n4_ := Aside0.mk (below_step (by repeat (first | (with_reducible first | exact HB.out | apply below_alloc | apply pw_below_drewN | apply below_drew1 | refine below_set ?_ (IsS51.ge HI327.out) | refine below_set ?_ GE338.out | refine below_set ?_ GE345.out | refine below_set ?_ GE356.out) | exact HB.out)) hb)
                            clear BK338
                            clear HI327
                            clear BK345
                            clear BK356
                            clear HB
                            have BK338 := n0_
                            have HI327 := n1_
                            have BK345 := n2_
                            have BK356 := n3_
                            have HB := n4_
                            clear n0_ n1_ n2_ n3_ n4_
                            (try clear hb)
                            (try clear hb2)
                            (try clear hk)
                            (try clear hi)
                            (try clear hgn)
                            refine hK.out _ _ ⟨(blk_cell BK338.out 0).trans rfl, (blk_cell BK338.out 1).trans rfl, (blk_cell BK356.out 0).trans rfl, (blk_cell BK356.out 1).trans rfl⟩ (fun hHeld => ?_)
                            clear hK K
                            refine norm_ (a' := ?_) ?_ ?_
                            rotate_left
                            · show Act.put _ (some 46) _ = _
                              simp only [Act.put, List.setIfInBounds_toArray, List.set_cons_zero, List.set_cons_succ, i64_w, i32_w]
                              rfl
                            refine pure_ (i := 3) (N := some 47) (v := ?_) (a' := ?_) #[true, true, true, true, false, false, false, false, false, false, false, false, false, false, false, false, false, false] rfl rfl (any_of HT_.out (by kernel_rfl)) (fun _ _ _ h => h) (Or.inl ⟨by rfl, ?_⟩) ?_ ?_
                            rotate_left
                            · intro w'
                              go_simp
                              with_reducible rfl
                            rotate_left
                            · simp only [Act.put, List.setIfInBounds_toArray, List.set_cons_zero, List.set_cons_succ, i64_w, i32_w]
                              rfl
                            refine pure_ (i := 4) (N := some 48) (v := ?_) (a' := ?_) #[true, true, true, true, true, false, false, false, false, false, false, false, false, false, false, false, false, false] rfl rfl (any_of HT_.out (by kernel_rfl)) (fun _ _ _ h => h) (Or.inl ⟨by rfl, ?_⟩) ?_ ?_
                            rotate_left
                            · intro w'
                              go_simp
                              with_reducible rfl
                            rotate_left
                            · simp only [Act.put, List.setIfInBounds_toArray, List.set_cons_zero, List.set_cons_succ, i64_w, i32_w]
                              rfl
                            refine pure_ (i := 5) (N := some 49) (v := ?_) (a' := ?_) #[true, true, true, true, true, true, false, false, false, false, false, false, false, false, false, false, false, false] rfl rfl (any_of HT_.out (by kernel_rfl)) (fun _ _ _ h => h) (Or.inl ⟨by rfl, ?_⟩) ?_ ?_
                            rotate_left
                            · intro w'
                              go_simp
                              with_reducible rfl
                            rotate_left
                            · simp only [Act.put, List.setIfInBounds_toArray, List.set_cons_zero, List.set_cons_succ, i64_w, i32_w]
                              rfl
                            refine pure_ (i := 7) (N := some 51) (v := ?_) (a' := ?_) #[true, true, true, true, true, true, false, true, false, false, false, false, false, false, false, false, false, false] rfl rfl (any_of HT_.out (by kernel_rfl)) (fun _ _ _ h => h) (Or.inl ⟨by rfl, ?_⟩) ?_ ?_
                            rotate_left
                            · intro w'
                              go_simp
                              with_reducible rfl
                            rotate_left
                            · simp only [Act.put, List.setIfInBounds_toArray, List.set_cons_zero, List.set_cons_succ, i64_w, i32_w]
                              rfl
                            refine take_ (i := 6) (N := some 50) (v := ?_) (a' := ?_) #[true, true, true, true, true, true, true, true, false, false, false, false, false, false, false, false, false, false] rfl rfl (take_ofW HT_.out HW_.out (by kernel_rfl)) (fun _ _ _ h => h) (Or.inl ⟨by rfl, ?_⟩) hHeld ?_ ?_
                            rotate_left
                            · rintro w' ⟨s0, s1, s2, s3⟩
                              go_simp
                              with_reducible rfl
                            rotate_left
                            · simp only [Act.put, List.setIfInBounds_toArray, List.set_cons_zero, List.set_cons_succ, i64_w, i32_w]
                              rfl
                            refine one_ (i := 8) (N := some 52) #[true, true, true, true, true, true, true, true, true, false, false, false, false, false, false, false, false, false] rfl rfl (one_of HT_.out (by kernel_rfl)) (by decide) (fun K hK => ?_)
                            refine goes_ Try.func22 (by kernel_rfl) rfl #[.pointer (some ⟨g327, 0, none⟩)] (by rfl) rfl rfl (by (try simp only [List.map_toArray, List.map_cons, List.map_nil]); first | done | rfl | (simp only [List.length_drop, List.length_take]; rfl)) ?_
                            with_reducible refine (clock_Clock_Bound.calls g327 t349 t350 t351 t352 t353 t354 t355 t358 t359 t360 t361 t362 t363 t364 t365 w _ ?side1 ?side2 A34.out).mono ?_
                            (case side1 => repeat (first | (with_reducible first | exact HI327.out | apply IsS51.alloc | apply IsS51.drewN | apply IsS51.drew | apply IsS51.set_0 | apply IsS51.set_1 | apply IsS51.set_2 | apply IsS51.set_3 | apply IsS51.set_4 | apply IsS51.set_5 | apply IsS51.set_6 | refine IsS51.far ?_ NB327_338.out _ | refine IsS51.far ?_ NB327_345.out _ | refine IsS51.far ?_ NB327_356.out _) | exact HI327.out))
                            (case side2 => repeat (first | (with_reducible first | exact HB.out | apply below_alloc | apply pw_below_drewN | apply below_drew1 | refine below_set ?_ (IsS51.ge HI327.out) | refine below_set ?_ GE338.out | refine below_set ?_ GE345.out | refine below_set ?_ GE356.out) | exact HB.out))
                            rintro e w41 ⟨rfl, hi, hb, hk⟩
                            refine ⟨_, rfl, ?_⟩
                            have n0_ := Aside0.mk (KeepBut.blk hk (g' := gb338) (o := .cells #[.int .i64 x339000_1, .int .i64 x339001_1] 33 (0, 0)) (by (with_reducible repeat (first | refine blk_drewN ?_ _ | refine blk_drew ?_ | refine blk_alloc ?_ _)); exact BK338.out) NB338_327.out (by simp))
                            have n1_ := Aside0.mk (KeepBut.blk hk (g' := gb345) (o := .cells #[.int .i64 t341, .int .i64 t342, .int .i64 t343, .int .i64 t344] 45 (0, 0)) (by (with_reducible repeat (first | refine blk_drewN ?_ _ | refine blk_drew ?_ | refine blk_alloc ?_ _)); exact BK345.out) NB345_327.out (by simp))
                            have n2_ := Aside0.mk (KeepBut.blk hk (g' := gb356) (o := .cells #[.int .i64 t346, .int .i64 t347] 33 (0, 0)) (by (with_reducible repeat (first | refine blk_drewN ?_ _ | refine blk_drew ?_ | refine blk_alloc ?_ _)); exact BK356.out) NB356_327.out (by simp))
                            have n3_ := Aside0.mk (hb)
                            have n4_ := Aside0.mk (hi)
                            clear BK338
                            clear BK345
                            clear BK356
                            clear HB
                            clear HI327
                            have BK338 := n0_
                            have BK345 := n1_
                            have BK356 := n2_
                            have HB := n3_
                            have HI327 := n4_
                            clear n0_ n1_ n2_ n3_ n4_
                            (try clear hb)
                            (try clear hb2)
                            (try clear hk)
                            (try clear hi)
                            (try clear hgn)
                            refine hK.out _ _ ⟨(blk_cell BK338.out 0).trans rfl, (blk_cell BK338.out 1).trans rfl, (blk_cell BK356.out 0).trans rfl, (blk_cell BK356.out 1).trans rfl⟩ (fun hHeld => ?_)
                            clear hK K
                            refine norm_ (a' := ?_) ?_ ?_
                            rotate_left
                            · show Act.put _ (some 52) _ = _
                              simp only [Act.put, List.setIfInBounds_toArray, List.set_cons_zero, List.set_cons_succ, i64_w, i32_w]
                              rfl
                            refine pure_ (i := 9) (N := some 53) (v := ?_) (a' := ?_) #[true, true, true, true, true, true, true, true, true, true, false, false, false, false, false, false, false, false] rfl rfl (any_of HT_.out (by kernel_rfl)) (fun _ _ _ h => h) (Or.inl ⟨by rfl, ?_⟩) ?_ ?_
                            rotate_left
                            · intro w'
                              go_simp
                              with_reducible rfl
                            rotate_left
                            · simp only [Act.put, List.setIfInBounds_toArray, List.set_cons_zero, List.set_cons_succ, i64_w, i32_w]
                              rfl
                            refine pure_ (i := 10) (N := some 54) (v := ?_) (a' := ?_) #[true, true, true, true, true, true, true, true, true, true, true, false, false, false, false, false, false, false] rfl rfl (any_of HT_.out (by kernel_rfl)) (fun _ _ _ h => h) (Or.inl ⟨by rfl, ?_⟩) ?_ ?_
                            rotate_left
                            · intro w'
                              go_simp
                              with_reducible rfl
                            rotate_left
                            · simp only [Act.put, List.setIfInBounds_toArray, List.set_cons_zero, List.set_cons_succ, i64_w, i32_w]
                              rfl
                            refine pure_ (i := 11) (N := some 55) (v := ?_) (a' := ?_) #[true, true, true, true, true, true, true, true, true, true, true, true, false, false, false, false, false, false] rfl rfl (any_of HT_.out (by kernel_rfl)) (fun _ _ _ h => h) (Or.inl ⟨by rfl, ?_⟩) ?_ ?_
                            rotate_left
                            · intro w'
                              go_simp
                              with_reducible rfl
                            rotate_left
                            · simp only [Act.put, List.setIfInBounds_toArray, List.set_cons_zero, List.set_cons_succ, i64_w, i32_w]
                              rfl
                            refine pure_ (i := 12) (N := some 56) (v := ?_) (a' := ?_) #[true, true, true, true, true, true, true, true, true, true, true, true, true, false, false, false, false, false] rfl rfl (any_of HT_.out (by kernel_rfl)) (fun _ _ _ h => h) (Or.inl ⟨by rfl, ?_⟩) ?_ ?_
                            rotate_left
                            · intro w'
                              go_simp
                              with_reducible rfl
                            rotate_left
                            · simp only [Act.put, List.setIfInBounds_toArray, List.set_cons_zero, List.set_cons_succ, i64_w, i32_w]
                              rfl
                            refine pure_ (i := 14) (N := some 58) (v := ?_) (a' := ?_) #[true, true, true, true, true, true, true, true, true, true, true, true, true, false, true, false, false, false] rfl rfl (any_of HT_.out (by kernel_rfl)) (fun _ _ _ h => h) (Or.inl ⟨by rfl, ?_⟩) ?_ ?_
                            rotate_left
                            · intro w'
                              go_simp
                              with_reducible rfl
                            rotate_left
                            · simp only [Act.put, List.setIfInBounds_toArray, List.set_cons_zero, List.set_cons_succ, i64_w, i32_w]
                              rfl
                            refine take_ (i := 13) (N := some 57) (v := ?_) (a' := ?_) #[true, true, true, true, true, true, true, true, true, true, true, true, true, true, true, false, false, false] rfl rfl (take_ofW HT_.out HW_.out (by kernel_rfl)) (fun _ _ _ h => h) (Or.inl ⟨by rfl, ?_⟩) hHeld ?_ ?_
                            rotate_left
                            · rintro w' ⟨s0, s1, s2, s3⟩
                              go_simp
                              with_reducible rfl
                            rotate_left
                            · simp only [Act.put, List.setIfInBounds_toArray, List.set_cons_zero, List.set_cons_succ, i64_w, i32_w]
                              rfl
                            refine one_ (i := 15) (N := some 59) #[true, true, true, true, true, true, true, true, true, true, true, true, true, true, true, true, false, false] rfl rfl (one_of HT_.out (by kernel_rfl)) (by decide) (fun K hK => ?_)
                            refine goes_ Try.func13 (by kernel_rfl) rfl #[.pointer (some ⟨g327, 0, none⟩)] (by rfl) rfl rfl (by (try simp only [List.map_toArray, List.map_cons, List.map_nil]); first | done | rfl | (simp only [List.length_drop, List.length_take]; rfl)) ?_
                            with_reducible refine (clock_Clock_Reading.calls g327 t359 t360 t361 t362 t363 t364 t365 t366 t367 t368 t369 t370 t371 t372 t373 w _ ?side1 ?side2 A36.out).mono ?_
                            (case side1 => repeat (first | (with_reducible first | exact HI327.out | apply IsS51.alloc | apply IsS51.drewN | apply IsS51.drew | apply IsS51.set_0 | apply IsS51.set_1 | apply IsS51.set_2 | apply IsS51.set_3 | apply IsS51.set_4 | apply IsS51.set_5 | apply IsS51.set_6 | refine IsS51.far ?_ NB327_338.out _ | refine IsS51.far ?_ NB327_345.out _ | refine IsS51.far ?_ NB327_356.out _) | exact HI327.out))
                            (case side2 => repeat (first | (with_reducible first | exact HB.out | apply below_alloc | apply pw_below_drewN | apply below_drew1 | refine below_set ?_ (IsS51.ge HI327.out) | refine below_set ?_ GE338.out | refine below_set ?_ GE345.out | refine below_set ?_ GE356.out) | exact HB.out))
                            rintro e w42 ⟨rfl, hi, hb, hk⟩
                            refine ⟨_, rfl, ?_⟩
                            have n0_ := Aside0.mk (KeepBut.blk hk (g' := gb338) (o := .cells #[.int .i64 x339000_1, .int .i64 x339001_1] 33 (0, 0)) (by (with_reducible repeat (first | refine blk_drewN ?_ _ | refine blk_drew ?_ | refine blk_alloc ?_ _)); exact BK338.out) NB338_327.out (by simp))
                            have n1_ := Aside0.mk (KeepBut.blk hk (g' := gb345) (o := .cells #[.int .i64 t341, .int .i64 t342, .int .i64 t343, .int .i64 t344] 45 (0, 0)) (by (with_reducible repeat (first | refine blk_drewN ?_ _ | refine blk_drew ?_ | refine blk_alloc ?_ _)); exact BK345.out) NB345_327.out (by simp))
                            have n2_ := Aside0.mk (KeepBut.blk hk (g' := gb356) (o := .cells #[.int .i64 t346, .int .i64 t347] 33 (0, 0)) (by (with_reducible repeat (first | refine blk_drewN ?_ _ | refine blk_drew ?_ | refine blk_alloc ?_ _)); exact BK356.out) NB356_327.out (by simp))
                            have n3_ := Aside0.mk (hb)
                            have n4_ := Aside0.mk (hi)
                            clear BK338
                            clear BK345
                            clear BK356
                            clear HB
                            clear HI327
                            have BK338 := n0_
                            have BK345 := n1_
                            have BK356 := n2_
                            have HB := n3_
                            have HI327 := n4_
                            clear n0_ n1_ n2_ n3_ n4_
                            (try clear hb)
                            (try clear hb2)
                            (try clear hk)
                            (try clear hi)
                            (try clear hgn)
                            refine hK.out _ _ ⟨(blk_cell BK338.out 0).trans rfl, (blk_cell BK338.out 1).trans rfl, (blk_cell BK356.out 0).trans rfl, (blk_cell BK356.out 1).trans rfl⟩ (fun hHeld => ?_)
                            clear hK K
                            refine norm_ (a' := ?_) ?_ ?_
                            rotate_left
                            · show Act.put _ (some 59) _ = _
                              simp only [Act.put, List.setIfInBounds_toArray, List.set_cons_zero, List.set_cons_succ, i64_w, i32_w]
                              rfl
                            refine pure_ (i := 16) (N := some 60) (v := ?_) (a' := ?_) #[true, true, true, true, true, true, true, true, true, true, true, true, true, true, true, true, true, false] rfl rfl (any_of HT_.out (by kernel_rfl)) (fun _ _ _ h => h) (Or.inl ⟨by rfl, ?_⟩) ?_ ?_
                            rotate_left
                            · intro w'
                              go_simp
                              with_reducible rfl
                            rotate_left
                            · simp only [Act.put, List.setIfInBounds_toArray, List.set_cons_zero, List.set_cons_succ, i64_w, i32_w]
                              rfl
                            refine pure_ (i := 17) (N := some 61) (v := ?_) (a' := ?_) #[true, true, true, true, true, true, true, true, true, true, true, true, true, true, true, true, true, true] rfl rfl (any_of HT_.out (by kernel_rfl)) (fun _ _ _ h => h) (Or.inl ⟨by rfl, ?_⟩) ?_ ?_
                            rotate_left
                            · intro w'
                              go_simp
                              with_reducible rfl
                            rotate_left
                            · simp only [Act.put, List.setIfInBounds_toArray, List.set_cons_zero, List.set_cons_succ, i64_w, i32_w]
                              rfl
                            refine done_ (done_of HT_.out (by kernel_rfl)) ?_
                            have hnb43 := NB356_338.out
                            have hnc43 := NB338_356.out
                            have hnb44 := NB356_345.out
                            have hnc44 := NB345_356.out
                            have hnb45 := NB356_327.out
                            have hnc45 := NB327_356.out
                            have hcz46_0 : w42.cell? ⟨gb356, 0, none⟩ = some (.int .i64 t346) := (blk_cell BK356.out 0).trans rfl
                            have hcz46_1 : w42.cell? ⟨gb356, 1, none⟩ = some (.int .i64 t347) := (blk_cell BK356.out 1).trans rfl
                            have hfz46_0 := blk_frozen BK356.out 0
                            have hfz46_1 := blk_frozen BK356.out 1
                            have hnb47 := NB338_345.out
                            have hnc47 := NB345_338.out
                            have hnb48 := NB338_327.out
                            have hnc48 := NB327_338.out
                            have hcz49_0 : w42.cell? ⟨gb338, 0, none⟩ = some (.int .i64 x339000_1) := (blk_cell BK338.out 0).trans rfl
                            have hcz49_1 : w42.cell? ⟨gb338, 1, none⟩ = some (.int .i64 x339001_1) := (blk_cell BK338.out 1).trans rfl
                            have hfz49_0 := blk_frozen BK338.out 0
                            have hfz49_1 := blk_frozen BK338.out 1
                            try go_wp2
                            go_meet
                            case rel => exact ⟨_, (t367), (t368), (t369), (t370), (t371), (t372), (t373), (t346), (t347), H', ⟨by have := HK1.out; have := HJ11.out; first | omega | exact Nat.le_refl _⟩, ⟨by (with_reducible repeat (first | refine blk_drewN ?_ _ | refine blk_drew ?_ | refine blk_alloc ?_ _)); refine blk_put (cs := #[.int .i64 t346, .int .i64 x339001_1]) ?_ 1 _ rfl; (with_reducible repeat (first | refine blk_drewN ?_ _ | refine blk_drew ?_ | refine blk_alloc ?_ _)); refine blk_put (cs := #[.int .i64 x339000_1, .int .i64 x339001_1]) ?_ 0 _ rfl; (with_reducible repeat (first | refine blk_drewN ?_ _ | refine blk_drew ?_ | refine blk_alloc ?_ _)); exact BK338.out⟩, ⟨by (with_reducible repeat (first | refine blk_drewN ?_ _ | refine blk_drew ?_ | refine blk_alloc ?_ _)); refine blk_far ?_ NB345_338.out _; (with_reducible repeat (first | refine blk_drewN ?_ _ | refine blk_drew ?_ | refine blk_alloc ?_ _)); refine blk_far ?_ NB345_338.out _; (with_reducible repeat (first | refine blk_drewN ?_ _ | refine blk_drew ?_ | refine blk_alloc ?_ _)); exact BK345.out⟩, ⟨by (with_reducible repeat (first | refine blk_drewN ?_ _ | refine blk_drew ?_ | refine blk_alloc ?_ _)); refine blk_far ?_ NB356_338.out _; (with_reducible repeat (first | refine blk_drewN ?_ _ | refine blk_drew ?_ | refine blk_alloc ?_ _)); refine blk_far ?_ NB356_338.out _; (with_reducible repeat (first | refine blk_drewN ?_ _ | refine blk_drew ?_ | refine blk_alloc ?_ _)); exact BK356.out⟩, ⟨by repeat (first | (with_reducible first | exact HI327.out | apply IsS51.alloc | apply IsS51.drewN | apply IsS51.drew | apply IsS51.set_0 | apply IsS51.set_1 | apply IsS51.set_2 | apply IsS51.set_3 | apply IsS51.set_4 | apply IsS51.set_5 | apply IsS51.set_6 | refine IsS51.far ?_ NB327_338.out _ | refine IsS51.far ?_ NB327_345.out _ | refine IsS51.far ?_ NB327_356.out _) | exact HI327.out)⟩, ⟨by repeat (first | (with_reducible first | exact HB.out | apply below_alloc | apply pw_below_drewN | apply below_drew1 | refine below_set ?_ (IsS51.ge HI327.out) | refine below_set ?_ GE338.out | refine below_set ?_ GE345.out | refine below_set ?_ GE356.out) | exact HB.out)⟩⟩
                      · replace c33 := Bool.eq_false_iff.mpr c33
                        subst c33
                        have H1 : (some false) = some r := by rw [if_neg (show ¬ (false = true) by decide)] at H; exact H
                        clear H
                        have H := H1
                        clear H1
                        exact absurd (Option.some.inj (H.trans (congrArg some hrt))) (by decide)
                    · replace c31 := Bool.eq_false_iff.mpr c31
                      subst c31
                      have H1 : (scriptoriumlaw06_ClockRises.j2 kj11 l1 x8_1 t349 t350 t351 t352 t353 t354 t355 x339000_1 x339001_1) = some r := by rw [if_neg (show ¬ (false = true) by decide)] at H; exact H
                      clear H
                      have H := H1
                      clear H1
                      have H' := Aside0.mk H
                      clear H
                      go_wp2
                      go_meet
                      case rel => exact ⟨_, (t349), (t350), (t351), (t352), (t353), (t354), (t355), (x339000_1), (x339001_1), H', ⟨by have := HK1.out; have := HJ11.out; first | omega | exact Nat.le_refl _⟩, ⟨by (with_reducible repeat (first | refine blk_drewN ?_ _ | refine blk_drew ?_ | refine blk_alloc ?_ _)); refine blk_far ?_ NB338_356.out _; (with_reducible repeat (first | refine blk_drewN ?_ _ | refine blk_drew ?_ | refine blk_alloc ?_ _)); refine blk_far ?_ NB338_356.out _; (with_reducible repeat (first | refine blk_drewN ?_ _ | refine blk_drew ?_ | refine blk_alloc ?_ _)); exact BK338.out⟩, ⟨by (with_reducible repeat (first | refine blk_drewN ?_ _ | refine blk_drew ?_ | refine blk_alloc ?_ _)); refine blk_far ?_ NB345_356.out _; (with_reducible repeat (first | refine blk_drewN ?_ _ | refine blk_drew ?_ | refine blk_alloc ?_ _)); refine blk_far ?_ NB345_356.out _; (with_reducible repeat (first | refine blk_drewN ?_ _ | refine blk_drew ?_ | refine blk_alloc ?_ _)); exact BK345.out⟩, ⟨by (with_reducible repeat (first | refine blk_drewN ?_ _ | refine blk_drew ?_ | refine blk_alloc ?_ _)); refine blk_put (cs := #[.int .i64 t346, .int .i64 0]) ?_ 1 _ rfl; (with_reducible repeat (first | refine blk_drewN ?_ _ | refine blk_drew ?_ | refine blk_alloc ?_ _)); refine blk_put (cs := #[.int .i64 0, .int .i64 0]) ?_ 0 _ rfl; (with_reducible repeat (first | refine blk_drewN ?_ _ | refine blk_drew ?_ | refine blk_alloc ?_ _)); exact BK356.out⟩, ⟨by repeat (first | (with_reducible first | exact HI327.out | apply IsS51.alloc | apply IsS51.drewN | apply IsS51.drew | apply IsS51.set_0 | apply IsS51.set_1 | apply IsS51.set_2 | apply IsS51.set_3 | apply IsS51.set_4 | apply IsS51.set_5 | apply IsS51.set_6 | refine IsS51.far ?_ NB327_338.out _ | refine IsS51.far ?_ NB327_345.out _ | refine IsS51.far ?_ NB327_356.out _) | exact HI327.out)⟩, ⟨by repeat (first | (with_reducible first | exact HB.out | apply below_alloc | apply pw_below_drewN | apply below_drew1 | refine below_set ?_ (IsS51.ge HI327.out) | refine below_set ?_ GE338.out | refine below_set ?_ GE345.out | refine below_set ?_ GE356.out) | exact HB.out)⟩⟩
                  case rest =>
                    clear HC19
                    try clear c1
                    try clear c2
                    try clear p2
                    try clear c3
                    try clear p3
                    try clear q3
                    try clear hx3
                    try clear c4
                    try clear c5
                    try clear c5b0
                    try clear c5b1
                    try clear c7
                    try clear c9
                    try clear c10
                    try clear c12
                    try clear c13
                    try clear c13b0
                    try clear c14
                    try clear c15
                    try clear c15b0
                    try clear c16
                    try clear c16b0
                    try clear c21
                    try clear c22
                    try clear c23
                    try clear c24
                    try clear c25
                    try clear c27
                    try clear c28
                    try clear c29
                    try clear c31
                    try clear c33
                    try clear p34
                    try clear q34
                    try clear hx34
                    try clear c35
                    try clear c35b0
                    try clear c37
                    try clear c37b0
                    try clear c43
                    try clear c44
                    try clear c45
                    try clear c47
                    try clear c48
                    try clear hcz11_0
                    try clear hcz11_1
                    try clear hcz24_0
                    try clear hcz24_1
                    try clear hcz24_2
                    try clear hcz24_3
                    try clear hcz30_0
                    try clear hcz30_1
                    try clear hcz46_0
                    try clear hcz46_1
                    try clear hcz49_0
                    try clear hcz49_1
                    try clear hfz11_0
                    try clear hfz11_1
                    try clear hfz24_0
                    try clear hfz24_1
                    try clear hfz24_2
                    try clear hfz24_3
                    try clear hfz30_0
                    try clear hfz30_1
                    try clear hfz46_0
                    try clear hfz46_1
                    try clear hfz49_0
                    try clear hfz49_1
                    try clear hx340_0
                    try clear hx340_1
                    try clear hx340_2
                    try clear hx340_3
                    try clear p2
                    try clear p340
                    try clear q340
                    obtain ⟨kq, x328000_18, x328001_18, x328002_18, x328003_18, x328004_18, x328005_18, x328006_18, x339000_18, x339001_18, HA, HJ18, BK338, BK345, BK356, HI327, HB⟩ := hcut
                    cases kq with
                    | zero => exact absurd HA.out (by simp [scriptoriumlaw06_ClockRises.j2])
                    | succ kj18 =>
                      have H := HA.out
                      clear HA
                      simp only [scriptoriumlaw06_ClockRises.j2] at H
                      have HC50 := Aside0.mk H
                      clear H
                      go_upto_region 14 with (fail)
                      go_cut [75] (fun v75 wc => ∃ (kq : Nat) (x75_49 : Bool) (x328000_49 : Int) (x328001_49 : Int) (x328002_49 : Int) (x328003_49 : Int) (x328004_49 : Int) (x328005_49 : Int) (x328006_49 : Bool), v75 = .bool x75_49 ∧ Aside0 (scriptoriumlaw06_ClockRises.j3 kq l1 x8_1 x75_49 x328000_49 x328001_49 x328002_49 x328003_49 x328004_49 x328005_49 x328006_49 x339000_18 x339001_18 = some r) ∧ Aside0 (kq ≤ kj18) ∧ Aside0 (wc.heap[gb338]? = some (.cells #[.int .i64 x339000_18, .int .i64 x339001_18] 33 (0, 0))) ∧ Aside0 (wc.heap[gb345]? = some (.cells #[.int .i64 t341, .int .i64 t342, .int .i64 t343, .int .i64 t344] 45 (0, 0))) ∧ Aside0 (wc.heap[gb356]? = some (.cells #[.int .i64 t346, .int .i64 t347] 33 (0, 0))) ∧ Aside0 (IsS51 w wc g327 x328000_49 x328001_49 x328002_49 x328003_49 x328004_49 x328005_49 x328006_49) ∧ Aside0 (Below w.heap.size w wc))
                      case first =>
                        have H := HC50.out
                        clear HC50
                        replace H := Option.bind_eq_some_iff.mp H
                        obtain ⟨⟨t374, t375, t376, t377, t378, t379, t380, t381, t382⟩, A510, H⟩ := H
                        replace H : ((stamp_Less.f kj18 t374 t375 x339000_18 x339001_18).bind fun t383 => (if t383 = true then (scriptoriumlaw06_ClockRises.j3 kj18 l1 x8_1 true t376 t377 t378 t379 t380 t381 t382 x339000_18 x339001_18) else ((clock_Clock_Last.f t376 t377 t378 t379 t380 t381 t382).bind fun bt384 => ((clock_Clock_Bound.f bt384.2.2.1 bt384.2.2.2.1 bt384.2.2.2.2.1 bt384.2.2.2.2.2.1 bt384.2.2.2.2.2.2.1 bt384.2.2.2.2.2.2.2.1 bt384.2.2.2.2.2.2.2.2).bind fun bt393 => (scriptoriumlaw06_ClockRises.j3 kj18 l1 x8_1 (decide (bt384.1 ≥ (mx bt393.1 1))) bt393.2.1 bt393.2.2.1 bt393.2.2.2.1 bt393.2.2.2.2.1 bt393.2.2.2.2.2.1 bt393.2.2.2.2.2.2.1 bt393.2.2.2.2.2.2.2 x339000_18 x339001_18))))) = some r := H
                        have A51 := Aside0.mk A510
                        clear A510
                        replace H := Option.bind_eq_some_iff.mp H
                        obtain ⟨t383, A520, H⟩ := H
                        replace H : (if t383 = true then (scriptoriumlaw06_ClockRises.j3 kj18 l1 x8_1 true t376 t377 t378 t379 t380 t381 t382 x339000_18 x339001_18) else ((clock_Clock_Last.f t376 t377 t378 t379 t380 t381 t382).bind fun bt384 => ((clock_Clock_Bound.f bt384.2.2.1 bt384.2.2.2.1 bt384.2.2.2.2.1 bt384.2.2.2.2.2.1 bt384.2.2.2.2.2.2.1 bt384.2.2.2.2.2.2.2.1 bt384.2.2.2.2.2.2.2.2).bind fun bt393 => (scriptoriumlaw06_ClockRises.j3 kj18 l1 x8_1 (decide (bt384.1 ≥ (mx bt393.1 1))) bt393.2.1 bt393.2.2.1 bt393.2.2.2.1 bt393.2.2.2.2.1 bt393.2.2.2.2.2.1 bt393.2.2.2.2.2.2.1 bt393.2.2.2.2.2.2.2 x339000_18 x339001_18)))) = some r := H
                        have A52 := Aside0.mk A520
                        clear A520
                        by_cases c53 : t383 = true
                        · subst c53
                          have H1 : (scriptoriumlaw06_ClockRises.j3 kj18 l1 x8_1 true t376 t377 t378 t379 t380 t381 t382 x339000_18 x339001_18) = some r := by rw [if_pos rfl] at H; exact H
                          clear H
                          have H := H1
                          clear H1
                          have H' := Aside0.mk H
                          clear H
                          try go_wp2
                          have n0_ := Aside0.mk (blk_drew BK338.out)
                          have n1_ := Aside0.mk (blk_drew BK345.out)
                          have n2_ := Aside0.mk (blk_drew BK356.out)
                          have n3_ := Aside0.mk (IsS51.drew HI327.out)
                          have n4_ := Aside0.mk (below_drew1 HB.out)
                          clear BK338
                          clear BK345
                          clear BK356
                          clear HI327
                          clear HB
                          have BK338 := n0_
                          have BK345 := n1_
                          have BK356 := n2_
                          have HI327 := n3_
                          have HB := n4_
                          clear n0_ n1_ n2_ n3_ n4_
                          refine start_ (n := 13) (S := fun w' => w'.cell? ⟨gb338, 0, none⟩ = some (.int .i64 x339000_18) ∧ w'.cell? ⟨gb338, 1, none⟩ = some (.int .i64 x339001_18)) (ds := []) #[false, false, false, false, false, false, false, false, false, false, false, false, false] (by kernel_rfl) rfl rfl ⟨(blk_cell BK338.out 0).trans rfl, (blk_cell BK338.out 1).trans rfl⟩ (fun hHeld => ?_); refine with_tabW scriptoriumlaw06_ClockRises.tab14 scriptoriumlaw06_ClockRises.bits14 (fun HT_ HW_ => ?_)
                          generalize wc.drew = w54 at BK338 BK345 BK356 HI327 HB hHeld ⊢
                          refine pure_ (i := 0) (N := some 63) (v := ?_) (a' := ?_) #[true, false, false, false, false, false, false, false, false, false, false, false, false] rfl rfl (any_of HT_.out (by kernel_rfl)) (fun _ _ _ h => h) (Or.inl ⟨by rfl, ?_⟩) ?_ ?_
                          rotate_left
                          · intro w'
                            go_simp
                            with_reducible rfl
                          rotate_left
                          · simp only [Act.put, List.setIfInBounds_toArray, List.set_cons_zero, List.set_cons_succ, i64_w, i32_w]
                            rfl
                          refine take_ (i := 2) (N := some 65) (v := ?_) (a' := ?_) #[true, false, true, false, false, false, false, false, false, false, false, false, false] rfl rfl (take_ofW HT_.out HW_.out (by kernel_rfl)) (fun _ _ _ h => h) (Or.inl ⟨by rfl, ?_⟩) hHeld ?_ ?_
                          rotate_left
                          · rintro w' ⟨s0, s1⟩
                            go_simp
                            with_reducible rfl
                          rotate_left
                          · simp only [Act.put, List.setIfInBounds_toArray, List.set_cons_zero, List.set_cons_succ, i64_w, i32_w]
                            rfl
                          refine one_ (i := 1) (N := some 64) #[true, true, true, false, false, false, false, false, false, false, false, false, false] rfl rfl (one_of HT_.out (by kernel_rfl)) (by decide) (fun K hK => ?_)
                          refine goes_ Try.func21 (by kernel_rfl) rfl #[.pointer (some ⟨g327, 0, none⟩)] (by rfl) rfl rfl (by (try simp only [List.map_toArray, List.map_cons, List.map_nil]); first | done | rfl | (simp only [List.length_drop, List.length_take]; rfl)) ?_
                          with_reducible refine (clock_Clock_Last.calls g327 x328000_18 x328001_18 x328002_18 x328003_18 x328004_18 x328005_18 x328006_18 t374 t375 t376 t377 t378 t379 t380 t381 t382 w _ ?side1 ?side2 A51.out).mono ?_
                          (case side1 => repeat (first | (with_reducible first | exact HI327.out | apply IsS51.alloc | apply IsS51.drewN | apply IsS51.drew | apply IsS51.set_0 | apply IsS51.set_1 | apply IsS51.set_2 | apply IsS51.set_3 | apply IsS51.set_4 | apply IsS51.set_5 | apply IsS51.set_6 | refine IsS51.far ?_ NB327_338.out _ | refine IsS51.far ?_ NB327_345.out _ | refine IsS51.far ?_ NB327_356.out _) | exact HI327.out))
                          (case side2 => repeat (first | (with_reducible first | exact HB.out | apply below_alloc | apply pw_below_drewN | apply below_drew1 | refine below_set ?_ (IsS51.ge HI327.out) | refine below_set ?_ GE338.out | refine below_set ?_ GE345.out | refine below_set ?_ GE356.out) | exact HB.out))
                          rintro e w55 ⟨rfl, hi, hb, hk⟩
                          refine ⟨_, rfl, ?_⟩
                          have n0_ := Aside0.mk (KeepBut.blk hk (g' := gb338) (o := .cells #[.int .i64 x339000_18, .int .i64 x339001_18] 33 (0, 0)) (by (with_reducible repeat (first | refine blk_drewN ?_ _ | refine blk_drew ?_ | refine blk_alloc ?_ _)); exact BK338.out) NB338_327.out (by simp))
                          have n1_ := Aside0.mk (KeepBut.blk hk (g' := gb345) (o := .cells #[.int .i64 t341, .int .i64 t342, .int .i64 t343, .int .i64 t344] 45 (0, 0)) (by (with_reducible repeat (first | refine blk_drewN ?_ _ | refine blk_drew ?_ | refine blk_alloc ?_ _)); exact BK345.out) NB345_327.out (by simp))
                          have n2_ := Aside0.mk (KeepBut.blk hk (g' := gb356) (o := .cells #[.int .i64 t346, .int .i64 t347] 33 (0, 0)) (by (with_reducible repeat (first | refine blk_drewN ?_ _ | refine blk_drew ?_ | refine blk_alloc ?_ _)); exact BK356.out) NB356_327.out (by simp))
                          have n3_ := Aside0.mk (hb)
                          have n4_ := Aside0.mk (hi)
                          clear BK338
                          clear BK345
                          clear BK356
                          clear HB
                          clear HI327
                          have BK338 := n0_
                          have BK345 := n1_
                          have BK356 := n2_
                          have HB := n3_
                          have HI327 := n4_
                          clear n0_ n1_ n2_ n3_ n4_
                          (try clear hb)
                          (try clear hb2)
                          (try clear hk)
                          (try clear hi)
                          (try clear hgn)
                          refine hK.out _ _ ⟨(blk_cell BK338.out 0).trans rfl, (blk_cell BK338.out 1).trans rfl⟩ (fun hHeld => ?_)
                          clear hK K
                          refine norm_ (a' := ?_) ?_ ?_
                          rotate_left
                          · show Act.put _ (some 64) _ = _
                            simp only [Act.put, List.setIfInBounds_toArray, List.set_cons_zero, List.set_cons_succ, i64_w, i32_w]
                            rfl
                          refine one_ (i := 3) (N := some 66) #[true, true, true, true, false, false, false, false, false, false, false, false, false] rfl rfl (one_of HT_.out (by kernel_rfl)) (by decide) (fun K hK => ?_)
                          refine goes_ Try.func25 (by kernel_rfl) rfl #[.agg #[.int .i64 t374, .int .i64 t375], .agg #[.int .i64 x339000_18, .int .i64 x339001_18]] (by rfl) rfl rfl (by (try simp only [List.map_toArray, List.map_cons, List.map_nil]); first | done | rfl | (simp only [List.length_drop, List.length_take]; rfl)) ?_
                          with_reducible refine (stamp_Less.calls kj18 t374 t375 x339000_18 x339001_18 true _ A52.out).mono ?_
                          rintro e w56 ⟨rfl, hb⟩
                          refine ⟨_, rfl, ?_⟩
                          have n0_ := Aside0.mk (blk_below (g := gb338) (o := .cells #[.int .i64 x339000_18, .int .i64 x339001_18] 33 (0, 0)) (by (with_reducible repeat (first | refine blk_drewN ?_ _ | refine blk_drew ?_ | refine blk_alloc ?_ _)); exact BK338.out) hb)
                          have n1_ := Aside0.mk (blk_below (g := gb345) (o := .cells #[.int .i64 t341, .int .i64 t342, .int .i64 t343, .int .i64 t344] 45 (0, 0)) (by (with_reducible repeat (first | refine blk_drewN ?_ _ | refine blk_drew ?_ | refine blk_alloc ?_ _)); exact BK345.out) hb)
                          have n2_ := Aside0.mk (blk_below (g := gb356) (o := .cells #[.int .i64 t346, .int .i64 t347] 33 (0, 0)) (by (with_reducible repeat (first | refine blk_drewN ?_ _ | refine blk_drew ?_ | refine blk_alloc ?_ _)); exact BK356.out) hb)
                          have n3_ := Aside0.mk (IsS51.below (by repeat (first | (with_reducible first | exact HI327.out | apply IsS51.alloc | apply IsS51.drewN | apply IsS51.drew | apply IsS51.set_0 | apply IsS51.set_1 | apply IsS51.set_2 | apply IsS51.set_3 | apply IsS51.set_4 | apply IsS51.set_5 | apply IsS51.set_6 | refine IsS51.far ?_ NB327_338.out _ | refine IsS51.far ?_ NB327_345.out _ | refine IsS51.far ?_ NB327_356.out _) | exact HI327.out)) hb)
                          have n4_ := Aside0.mk (below_step (by repeat (first | (with_reducible first | exact HB.out | apply below_alloc | apply pw_below_drewN | apply below_drew1 | refine below_set ?_ (IsS51.ge HI327.out) | refine below_set ?_ GE338.out | refine below_set ?_ GE345.out | refine below_set ?_ GE356.out) | exact HB.out)) hb)
                          clear BK338
                          clear BK345
                          clear BK356
                          clear HI327
                          clear HB
                          have BK338 := n0_
                          have BK345 := n1_
                          have BK356 := n2_
                          have HI327 := n3_
                          have HB := n4_
                          clear n0_ n1_ n2_ n3_ n4_
                          (try clear hb)
                          (try clear hb2)
                          (try clear hk)
                          (try clear hi)
                          (try clear hgn)
                          refine hK.out _ _ ⟨(blk_cell BK338.out 0).trans rfl, (blk_cell BK338.out 1).trans rfl⟩ (fun hHeld => ?_)
                          clear hK K
                          refine norm_ (a' := ?_) ?_ ?_
                          rotate_left
                          · show Act.put _ (some 66) _ = _
                            simp only [Act.put, List.setIfInBounds_toArray, List.set_cons_zero, List.set_cons_succ, i64_w, i32_w]
                            rfl
                          refine pure_ (i := 4) (N := some 67) (v := ?_) (a' := ?_) #[true, true, true, true, true, false, false, false, false, false, false, false, false] rfl rfl (any_of HT_.out (by kernel_rfl)) (fun _ _ _ h => h) (Or.inl ⟨by rfl, ?_⟩) ?_ ?_
                          rotate_left
                          · intro w'
                            go_simp
                            with_reducible rfl
                          rotate_left
                          · simp only [Act.put, List.setIfInBounds_toArray, List.set_cons_zero, List.set_cons_succ, i64_w, i32_w]
                            rfl
                          refine pure_ (i := 5) (N := some 68) (v := undef) (a' := ?_) #[true, true, true, true, true, true, false, false, false, false, false, false, false] rfl rfl (any_of HT_.out (by kernel_rfl)) (fun _ _ _ h => h) (Or.inr ⟨by rfl, rfl⟩) ?_ ?_
                          rotate_left
                          · simp only [Act.put, List.setIfInBounds_toArray, List.set_cons_zero, List.set_cons_succ, i64_w, i32_w]
                            rfl
                          refine pure_ (i := 6) (N := some 69) (v := undef) (a' := ?_) #[true, true, true, true, true, true, true, false, false, false, false, false, false] rfl rfl (any_of HT_.out (by kernel_rfl)) (fun _ _ _ h => h) (Or.inr ⟨by rfl, rfl⟩) ?_ ?_
                          rotate_left
                          · simp only [Act.put, List.setIfInBounds_toArray, List.set_cons_zero, List.set_cons_succ, i64_w, i32_w]
                            rfl
                          refine pure_ (i := 7) (N := some 70) (v := undef) (a' := ?_) #[true, true, true, true, true, true, true, true, false, false, false, false, false] rfl rfl (any_of HT_.out (by kernel_rfl)) (fun _ _ _ h => h) (Or.inr ⟨by rfl, rfl⟩) ?_ ?_
                          rotate_left
                          · simp only [Act.put, List.setIfInBounds_toArray, List.set_cons_zero, List.set_cons_succ, i64_w, i32_w]
                            rfl
                          refine pure_ (i := 8) (N := some 71) (v := undef) (a' := ?_) #[true, true, true, true, true, true, true, true, true, false, false, false, false] rfl rfl (any_of HT_.out (by kernel_rfl)) (fun _ _ _ h => h) (Or.inr ⟨by rfl, rfl⟩) ?_ ?_
                          rotate_left
                          · simp only [Act.put, List.setIfInBounds_toArray, List.set_cons_zero, List.set_cons_succ, i64_w, i32_w]
                            rfl
                          refine pure_ (i := 9) (N := some 72) (v := undef) (a' := ?_) #[true, true, true, true, true, true, true, true, true, true, false, false, false] rfl rfl (any_of HT_.out (by kernel_rfl)) (fun _ _ _ h => h) (Or.inr ⟨by rfl, rfl⟩) ?_ ?_
                          rotate_left
                          · simp only [Act.put, List.setIfInBounds_toArray, List.set_cons_zero, List.set_cons_succ, i64_w, i32_w]
                            rfl
                          refine pure_ (i := 10) (N := some 73) (v := undef) (a' := ?_) #[true, true, true, true, true, true, true, true, true, true, true, false, false] rfl rfl (any_of HT_.out (by kernel_rfl)) (fun _ _ _ h => h) (Or.inr ⟨by rfl, rfl⟩) ?_ ?_
                          rotate_left
                          · simp only [Act.put, List.setIfInBounds_toArray, List.set_cons_zero, List.set_cons_succ, i64_w, i32_w]
                            rfl
                          refine pure_ (i := 11) (N := some 74) (v := undef) (a' := ?_) #[true, true, true, true, true, true, true, true, true, true, true, true, false] rfl rfl (any_of HT_.out (by kernel_rfl)) (fun _ _ _ h => h) (Or.inr ⟨by rfl, rfl⟩) ?_ ?_
                          rotate_left
                          · simp only [Act.put, List.setIfInBounds_toArray, List.set_cons_zero, List.set_cons_succ, i64_w, i32_w]
                            rfl
                          refine pure_ (i := 12) (N := some 75) (v := ?_) (a' := ?_) #[true, true, true, true, true, true, true, true, true, true, true, true, true] rfl rfl (any_of HT_.out (by kernel_rfl)) (fun _ _ _ h => h) (Or.inl ⟨by rfl, ?_⟩) ?_ ?_
                          rotate_left
                          · intro w'
                            go_simp
                            with_reducible rfl
                          rotate_left
                          · simp only [Act.put, List.setIfInBounds_toArray, List.set_cons_zero, List.set_cons_succ, i64_w, i32_w]
                            rfl
                          refine done_ (done_of HT_.out (by kernel_rfl)) ?_
                          try go_wp2
                          go_meet
                          case rel => exact ⟨_, (true), (t376), (t377), (t378), (t379), (t380), (t381), (t382), (by first | rfl | (simp; done) | (simp [*]; done)), H', ⟨by have := HK1.out; have := HJ11.out; have := HJ18.out; first | omega | exact Nat.le_refl _⟩, ⟨by (with_reducible repeat (first | refine blk_drewN ?_ _ | refine blk_drew ?_ | refine blk_alloc ?_ _)); exact BK338.out⟩, ⟨by (with_reducible repeat (first | refine blk_drewN ?_ _ | refine blk_drew ?_ | refine blk_alloc ?_ _)); exact BK345.out⟩, ⟨by (with_reducible repeat (first | refine blk_drewN ?_ _ | refine blk_drew ?_ | refine blk_alloc ?_ _)); exact BK356.out⟩, ⟨by repeat (first | (with_reducible first | exact HI327.out | apply IsS51.alloc | apply IsS51.drewN | apply IsS51.drew | apply IsS51.set_0 | apply IsS51.set_1 | apply IsS51.set_2 | apply IsS51.set_3 | apply IsS51.set_4 | apply IsS51.set_5 | apply IsS51.set_6 | refine IsS51.far ?_ NB327_338.out _ | refine IsS51.far ?_ NB327_345.out _ | refine IsS51.far ?_ NB327_356.out _) | exact HI327.out)⟩, ⟨by repeat (first | (with_reducible first | exact HB.out | apply below_alloc | apply pw_below_drewN | apply below_drew1 | refine below_set ?_ (IsS51.ge HI327.out) | refine below_set ?_ GE338.out | refine below_set ?_ GE345.out | refine below_set ?_ GE356.out) | exact HB.out)⟩⟩
                        · replace c53 := Bool.eq_false_iff.mpr c53
                          subst c53
                          have H1 : ((clock_Clock_Last.f t376 t377 t378 t379 t380 t381 t382).bind fun bt384 => ((clock_Clock_Bound.f bt384.2.2.1 bt384.2.2.2.1 bt384.2.2.2.2.1 bt384.2.2.2.2.2.1 bt384.2.2.2.2.2.2.1 bt384.2.2.2.2.2.2.2.1 bt384.2.2.2.2.2.2.2.2).bind fun bt393 => (scriptoriumlaw06_ClockRises.j3 kj18 l1 x8_1 (decide (bt384.1 ≥ (mx bt393.1 1))) bt393.2.1 bt393.2.2.1 bt393.2.2.2.1 bt393.2.2.2.2.1 bt393.2.2.2.2.2.1 bt393.2.2.2.2.2.2.1 bt393.2.2.2.2.2.2.2 x339000_18 x339001_18))) = some r := by rw [if_neg (show ¬ (false = true) by decide)] at H; exact H
                          clear H
                          have H := H1
                          clear H1
                          replace H := Option.bind_eq_some_iff.mp H
                          obtain ⟨⟨t384, t385, t386, t387, t388, t389, t390, t391, t392⟩, A570, H⟩ := H
                          replace H : ((clock_Clock_Bound.f t386 t387 t388 t389 t390 t391 t392).bind fun bt393 => (scriptoriumlaw06_ClockRises.j3 kj18 l1 x8_1 (decide (t384 ≥ (mx bt393.1 1))) bt393.2.1 bt393.2.2.1 bt393.2.2.2.1 bt393.2.2.2.2.1 bt393.2.2.2.2.2.1 bt393.2.2.2.2.2.2.1 bt393.2.2.2.2.2.2.2 x339000_18 x339001_18)) = some r := H
                          have A57 := Aside0.mk A570
                          clear A570
                          replace H := Option.bind_eq_some_iff.mp H
                          obtain ⟨⟨t393, t394, t395, t396, t397, t398, t399, t400⟩, A580, H⟩ := H
                          replace H : (scriptoriumlaw06_ClockRises.j3 kj18 l1 x8_1 (decide (t384 ≥ (mx t393 1))) t394 t395 t396 t397 t398 t399 t400 x339000_18 x339001_18) = some r := H
                          have A58 := Aside0.mk A580
                          clear A580
                          obtain ⟨ji59, hji59⟩ : ∃ j_ : Int, (mx t393 1) = j_ := ⟨_, rfl⟩
                          replace H : (scriptoriumlaw06_ClockRises.j3 kj18 l1 x8_1 (decide (t384 ≥ (ji59))) t394 t395 t396 t397 t398 t399 t400 x339000_18 x339001_18) = some r := by first | (rw [hji59] at H; exact H) | (simp only [hji59] at H ⊢; exact H)
                          (try rw [hji59] at A51)
                          (try rw [hji59] at A52)
                          (try rw [hji59] at A57)
                          (try rw [hji59] at A58)
                          (try (have hji59l : 1 ≤ ji59 := by (rw [← hji59]; unfold mx; (repeat' split) <;> omega)))
                          (try (have hji59m : 0 ≤ ji59 := by omega))
                          have hji59_ : (if t393 < 1 then 1 else t393) = ji59 := hji59
                          have H' := Aside0.mk H
                          clear H
                          try go_wp2
                          have n0_ := Aside0.mk (blk_drew BK338.out)
                          have n1_ := Aside0.mk (blk_drew BK345.out)
                          have n2_ := Aside0.mk (blk_drew BK356.out)
                          have n3_ := Aside0.mk (IsS51.drew HI327.out)
                          have n4_ := Aside0.mk (below_drew1 HB.out)
                          clear BK338
                          clear BK345
                          clear BK356
                          clear HI327
                          clear HB
                          have BK338 := n0_
                          have BK345 := n1_
                          have BK356 := n2_
                          have HI327 := n3_
                          have HB := n4_
                          clear n0_ n1_ n2_ n3_ n4_
                          refine start_ (n := 13) (S := fun w' => w'.cell? ⟨gb338, 0, none⟩ = some (.int .i64 x339000_18) ∧ w'.cell? ⟨gb338, 1, none⟩ = some (.int .i64 x339001_18)) (ds := []) #[false, false, false, false, false, false, false, false, false, false, false, false, false] (by kernel_rfl) rfl rfl ⟨(blk_cell BK338.out 0).trans rfl, (blk_cell BK338.out 1).trans rfl⟩ (fun hHeld => ?_); refine with_tabW scriptoriumlaw06_ClockRises.tab14 scriptoriumlaw06_ClockRises.bits14 (fun HT_ HW_ => ?_)
                          generalize wc.drew = w60 at BK338 BK345 BK356 HI327 HB hHeld ⊢
                          refine pure_ (i := 0) (N := some 63) (v := ?_) (a' := ?_) #[true, false, false, false, false, false, false, false, false, false, false, false, false] rfl rfl (any_of HT_.out (by kernel_rfl)) (fun _ _ _ h => h) (Or.inl ⟨by rfl, ?_⟩) ?_ ?_
                          rotate_left
                          · intro w'
                            go_simp
                            with_reducible rfl
                          rotate_left
                          · simp only [Act.put, List.setIfInBounds_toArray, List.set_cons_zero, List.set_cons_succ, i64_w, i32_w]
                            rfl
                          refine take_ (i := 2) (N := some 65) (v := ?_) (a' := ?_) #[true, false, true, false, false, false, false, false, false, false, false, false, false] rfl rfl (take_ofW HT_.out HW_.out (by kernel_rfl)) (fun _ _ _ h => h) (Or.inl ⟨by rfl, ?_⟩) hHeld ?_ ?_
                          rotate_left
                          · rintro w' ⟨s0, s1⟩
                            go_simp
                            with_reducible rfl
                          rotate_left
                          · simp only [Act.put, List.setIfInBounds_toArray, List.set_cons_zero, List.set_cons_succ, i64_w, i32_w]
                            rfl
                          refine one_ (i := 1) (N := some 64) #[true, true, true, false, false, false, false, false, false, false, false, false, false] rfl rfl (one_of HT_.out (by kernel_rfl)) (by decide) (fun K hK => ?_)
                          refine goes_ Try.func21 (by kernel_rfl) rfl #[.pointer (some ⟨g327, 0, none⟩)] (by rfl) rfl rfl (by (try simp only [List.map_toArray, List.map_cons, List.map_nil]); first | done | rfl | (simp only [List.length_drop, List.length_take]; rfl)) ?_
                          with_reducible refine (clock_Clock_Last.calls g327 x328000_18 x328001_18 x328002_18 x328003_18 x328004_18 x328005_18 x328006_18 t374 t375 t376 t377 t378 t379 t380 t381 t382 w _ ?side1 ?side2 A51.out).mono ?_
                          (case side1 => repeat (first | (with_reducible first | exact HI327.out | apply IsS51.alloc | apply IsS51.drewN | apply IsS51.drew | apply IsS51.set_0 | apply IsS51.set_1 | apply IsS51.set_2 | apply IsS51.set_3 | apply IsS51.set_4 | apply IsS51.set_5 | apply IsS51.set_6 | refine IsS51.far ?_ NB327_338.out _ | refine IsS51.far ?_ NB327_345.out _ | refine IsS51.far ?_ NB327_356.out _) | exact HI327.out))
                          (case side2 => repeat (first | (with_reducible first | exact HB.out | apply below_alloc | apply pw_below_drewN | apply below_drew1 | refine below_set ?_ (IsS51.ge HI327.out) | refine below_set ?_ GE338.out | refine below_set ?_ GE345.out | refine below_set ?_ GE356.out) | exact HB.out))
                          rintro e w61 ⟨rfl, hi, hb, hk⟩
                          refine ⟨_, rfl, ?_⟩
                          have n0_ := Aside0.mk (KeepBut.blk hk (g' := gb338) (o := .cells #[.int .i64 x339000_18, .int .i64 x339001_18] 33 (0, 0)) (by (with_reducible repeat (first | refine blk_drewN ?_ _ | refine blk_drew ?_ | refine blk_alloc ?_ _)); exact BK338.out) NB338_327.out (by simp))
                          have n1_ := Aside0.mk (KeepBut.blk hk (g' := gb345) (o := .cells #[.int .i64 t341, .int .i64 t342, .int .i64 t343, .int .i64 t344] 45 (0, 0)) (by (with_reducible repeat (first | refine blk_drewN ?_ _ | refine blk_drew ?_ | refine blk_alloc ?_ _)); exact BK345.out) NB345_327.out (by simp))
                          have n2_ := Aside0.mk (KeepBut.blk hk (g' := gb356) (o := .cells #[.int .i64 t346, .int .i64 t347] 33 (0, 0)) (by (with_reducible repeat (first | refine blk_drewN ?_ _ | refine blk_drew ?_ | refine blk_alloc ?_ _)); exact BK356.out) NB356_327.out (by simp))
                          have n3_ := Aside0.mk (hb)
                          have n4_ := Aside0.mk (hi)
                          clear BK338
                          clear BK345
                          clear BK356
                          clear HB
                          clear HI327
                          have BK338 := n0_
                          have BK345 := n1_
                          have BK356 := n2_
                          have HB := n3_
                          have HI327 := n4_
                          clear n0_ n1_ n2_ n3_ n4_
                          (try clear hb)
                          (try clear hb2)
                          (try clear hk)
                          (try clear hi)
                          (try clear hgn)
                          refine hK.out _ _ ⟨(blk_cell BK338.out 0).trans rfl, (blk_cell BK338.out 1).trans rfl⟩ (fun hHeld => ?_)
                          clear hK K
                          refine norm_ (a' := ?_) ?_ ?_
                          rotate_left
                          · show Act.put _ (some 64) _ = _
                            simp only [Act.put, List.setIfInBounds_toArray, List.set_cons_zero, List.set_cons_succ, i64_w, i32_w]
                            rfl
                          refine one_ (i := 3) (N := some 66) #[true, true, true, true, false, false, false, false, false, false, false, false, false] rfl rfl (one_of HT_.out (by kernel_rfl)) (by decide) (fun K hK => ?_)
                          refine goes_ Try.func25 (by kernel_rfl) rfl #[.agg #[.int .i64 t374, .int .i64 t375], .agg #[.int .i64 x339000_18, .int .i64 x339001_18]] (by rfl) rfl rfl (by (try simp only [List.map_toArray, List.map_cons, List.map_nil]); first | done | rfl | (simp only [List.length_drop, List.length_take]; rfl)) ?_
                          with_reducible refine (stamp_Less.calls kj18 t374 t375 x339000_18 x339001_18 false _ A52.out).mono ?_
                          rintro e w62 ⟨rfl, hb⟩
                          refine ⟨_, rfl, ?_⟩
                          have n0_ := Aside0.mk (blk_below (g := gb338) (o := .cells #[.int .i64 x339000_18, .int .i64 x339001_18] 33 (0, 0)) (by (with_reducible repeat (first | refine blk_drewN ?_ _ | refine blk_drew ?_ | refine blk_alloc ?_ _)); exact BK338.out) hb)
                          have n1_ := Aside0.mk (blk_below (g := gb345) (o := .cells #[.int .i64 t341, .int .i64 t342, .int .i64 t343, .int .i64 t344] 45 (0, 0)) (by (with_reducible repeat (first | refine blk_drewN ?_ _ | refine blk_drew ?_ | refine blk_alloc ?_ _)); exact BK345.out) hb)
                          have n2_ := Aside0.mk (blk_below (g := gb356) (o := .cells #[.int .i64 t346, .int .i64 t347] 33 (0, 0)) (by (with_reducible repeat (first | refine blk_drewN ?_ _ | refine blk_drew ?_ | refine blk_alloc ?_ _)); exact BK356.out) hb)
                          have n3_ := Aside0.mk (IsS51.below (by repeat (first | (with_reducible first | exact HI327.out | apply IsS51.alloc | apply IsS51.drewN | apply IsS51.drew | apply IsS51.set_0 | apply IsS51.set_1 | apply IsS51.set_2 | apply IsS51.set_3 | apply IsS51.set_4 | apply IsS51.set_5 | apply IsS51.set_6 | refine IsS51.far ?_ NB327_338.out _ | refine IsS51.far ?_ NB327_345.out _ | refine IsS51.far ?_ NB327_356.out _) | exact HI327.out)) hb)
                          have n4_ := Aside0.mk (below_step (by repeat (first | (with_reducible first | exact HB.out | apply below_alloc | apply pw_below_drewN | apply below_drew1 | refine below_set ?_ (IsS51.ge HI327.out) | refine below_set ?_ GE338.out | refine below_set ?_ GE345.out | refine below_set ?_ GE356.out) | exact HB.out)) hb)
                          clear BK338
                          clear BK345
                          clear BK356
                          clear HI327
                          clear HB
                          have BK338 := n0_
                          have BK345 := n1_
                          have BK356 := n2_
                          have HI327 := n3_
                          have HB := n4_
                          clear n0_ n1_ n2_ n3_ n4_
                          (try clear hb)
                          (try clear hb2)
                          (try clear hk)
                          (try clear hi)
                          (try clear hgn)
                          refine hK.out _ _ ⟨(blk_cell BK338.out 0).trans rfl, (blk_cell BK338.out 1).trans rfl⟩ (fun hHeld => ?_)
                          clear hK K
                          refine norm_ (a' := ?_) ?_ ?_
                          rotate_left
                          · show Act.put _ (some 66) _ = _
                            simp only [Act.put, List.setIfInBounds_toArray, List.set_cons_zero, List.set_cons_succ, i64_w, i32_w]
                            rfl
                          refine pure_ (i := 4) (N := some 67) (v := ?_) (a' := ?_) #[true, true, true, true, true, false, false, false, false, false, false, false, false] rfl rfl (any_of HT_.out (by kernel_rfl)) (fun _ _ _ h => h) (Or.inl ⟨by rfl, ?_⟩) ?_ ?_
                          rotate_left
                          · intro w'
                            go_simp
                            with_reducible rfl
                          rotate_left
                          · simp only [Act.put, List.setIfInBounds_toArray, List.set_cons_zero, List.set_cons_succ, i64_w, i32_w]
                            rfl
                          refine pure_ (i := 5) (N := some 68) (v := ?_) (a' := ?_) #[true, true, true, true, true, true, false, false, false, false, false, false, false] rfl rfl (any_of HT_.out (by kernel_rfl)) (fun _ _ _ h => h) (Or.inl ⟨by rfl, ?_⟩) ?_ ?_
                          rotate_left
                          · intro w'
                            go_simp
                            with_reducible rfl
                          rotate_left
                          · simp only [Act.put, List.setIfInBounds_toArray, List.set_cons_zero, List.set_cons_succ, i64_w, i32_w]
                            rfl
                          refine pure_ (i := 8) (N := some 71) (v := ?_) (a' := ?_) #[true, true, true, true, true, true, false, false, true, false, false, false, false] rfl rfl (any_of HT_.out (by kernel_rfl)) (fun _ _ _ h => h) (Or.inl ⟨by rfl, ?_⟩) ?_ ?_
                          rotate_left
                          · intro w'
                            go_simp
                            with_reducible rfl
                          rotate_left
                          · simp only [Act.put, List.setIfInBounds_toArray, List.set_cons_zero, List.set_cons_succ, i64_w, i32_w]
                            rfl
                          refine one_ (i := 6) (N := some 69) #[true, true, true, true, true, true, true, false, true, false, false, false, false] rfl rfl (one_of HT_.out (by kernel_rfl)) (by decide) (fun K hK => ?_)
                          refine goes_ Try.func21 (by kernel_rfl) rfl #[.pointer (some ⟨g327, 0, none⟩)] (by rfl) rfl rfl (by (try simp only [List.map_toArray, List.map_cons, List.map_nil]); first | done | rfl | (simp only [List.length_drop, List.length_take]; rfl)) ?_
                          with_reducible refine (clock_Clock_Last.calls g327 t376 t377 t378 t379 t380 t381 t382 t384 t385 t386 t387 t388 t389 t390 t391 t392 w _ ?side1 ?side2 A57.out).mono ?_
                          (case side1 => repeat (first | (with_reducible first | exact HI327.out | apply IsS51.alloc | apply IsS51.drewN | apply IsS51.drew | apply IsS51.set_0 | apply IsS51.set_1 | apply IsS51.set_2 | apply IsS51.set_3 | apply IsS51.set_4 | apply IsS51.set_5 | apply IsS51.set_6 | refine IsS51.far ?_ NB327_338.out _ | refine IsS51.far ?_ NB327_345.out _ | refine IsS51.far ?_ NB327_356.out _) | exact HI327.out))
                          (case side2 => repeat (first | (with_reducible first | exact HB.out | apply below_alloc | apply pw_below_drewN | apply below_drew1 | refine below_set ?_ (IsS51.ge HI327.out) | refine below_set ?_ GE338.out | refine below_set ?_ GE345.out | refine below_set ?_ GE356.out) | exact HB.out))
                          rintro e w63 ⟨rfl, hi, hb, hk⟩
                          refine ⟨_, rfl, ?_⟩
                          have n0_ := Aside0.mk (KeepBut.blk hk (g' := gb338) (o := .cells #[.int .i64 x339000_18, .int .i64 x339001_18] 33 (0, 0)) (by (with_reducible repeat (first | refine blk_drewN ?_ _ | refine blk_drew ?_ | refine blk_alloc ?_ _)); exact BK338.out) NB338_327.out (by simp))
                          have n1_ := Aside0.mk (KeepBut.blk hk (g' := gb345) (o := .cells #[.int .i64 t341, .int .i64 t342, .int .i64 t343, .int .i64 t344] 45 (0, 0)) (by (with_reducible repeat (first | refine blk_drewN ?_ _ | refine blk_drew ?_ | refine blk_alloc ?_ _)); exact BK345.out) NB345_327.out (by simp))
                          have n2_ := Aside0.mk (KeepBut.blk hk (g' := gb356) (o := .cells #[.int .i64 t346, .int .i64 t347] 33 (0, 0)) (by (with_reducible repeat (first | refine blk_drewN ?_ _ | refine blk_drew ?_ | refine blk_alloc ?_ _)); exact BK356.out) NB356_327.out (by simp))
                          have n3_ := Aside0.mk (hb)
                          have n4_ := Aside0.mk (hi)
                          clear BK338
                          clear BK345
                          clear BK356
                          clear HB
                          clear HI327
                          have BK338 := n0_
                          have BK345 := n1_
                          have BK356 := n2_
                          have HB := n3_
                          have HI327 := n4_
                          clear n0_ n1_ n2_ n3_ n4_
                          (try clear hb)
                          (try clear hb2)
                          (try clear hk)
                          (try clear hi)
                          (try clear hgn)
                          refine hK.out _ _ ⟨(blk_cell BK338.out 0).trans rfl, (blk_cell BK338.out 1).trans rfl⟩ (fun hHeld => ?_)
                          clear hK K
                          refine norm_ (a' := ?_) ?_ ?_
                          rotate_left
                          · show Act.put _ (some 69) _ = _
                            simp only [Act.put, List.setIfInBounds_toArray, List.set_cons_zero, List.set_cons_succ, i64_w, i32_w]
                            rfl
                          refine pure_ (i := 7) (N := some 70) (v := ?_) (a' := ?_) #[true, true, true, true, true, true, true, true, true, false, false, false, false] rfl rfl (any_of HT_.out (by kernel_rfl)) (fun _ _ _ h => h) (Or.inl ⟨by rfl, ?_⟩) ?_ ?_
                          rotate_left
                          · intro w'
                            go_simp
                            with_reducible rfl
                          rotate_left
                          · simp only [Act.put, List.setIfInBounds_toArray, List.set_cons_zero, List.set_cons_succ, i64_w, i32_w]
                            rfl
                          refine one_ (i := 9) (N := some 72) #[true, true, true, true, true, true, true, true, true, true, false, false, false] rfl rfl (one_of HT_.out (by kernel_rfl)) (by decide) (fun K hK => ?_)
                          refine goes_ Try.func22 (by kernel_rfl) rfl #[.pointer (some ⟨g327, 0, none⟩)] (by rfl) rfl rfl (by (try simp only [List.map_toArray, List.map_cons, List.map_nil]); first | done | rfl | (simp only [List.length_drop, List.length_take]; rfl)) ?_
                          with_reducible refine (clock_Clock_Bound.calls g327 t386 t387 t388 t389 t390 t391 t392 t393 t394 t395 t396 t397 t398 t399 t400 w _ ?side1 ?side2 A58.out).mono ?_
                          (case side1 => repeat (first | (with_reducible first | exact HI327.out | apply IsS51.alloc | apply IsS51.drewN | apply IsS51.drew | apply IsS51.set_0 | apply IsS51.set_1 | apply IsS51.set_2 | apply IsS51.set_3 | apply IsS51.set_4 | apply IsS51.set_5 | apply IsS51.set_6 | refine IsS51.far ?_ NB327_338.out _ | refine IsS51.far ?_ NB327_345.out _ | refine IsS51.far ?_ NB327_356.out _) | exact HI327.out))
                          (case side2 => repeat (first | (with_reducible first | exact HB.out | apply below_alloc | apply pw_below_drewN | apply below_drew1 | refine below_set ?_ (IsS51.ge HI327.out) | refine below_set ?_ GE338.out | refine below_set ?_ GE345.out | refine below_set ?_ GE356.out) | exact HB.out))
                          rintro e w64 ⟨rfl, hi, hb, hk⟩
                          refine ⟨_, rfl, ?_⟩
                          have n0_ := Aside0.mk (KeepBut.blk hk (g' := gb338) (o := .cells #[.int .i64 x339000_18, .int .i64 x339001_18] 33 (0, 0)) (by (with_reducible repeat (first | refine blk_drewN ?_ _ | refine blk_drew ?_ | refine blk_alloc ?_ _)); exact BK338.out) NB338_327.out (by simp))
                          have n1_ := Aside0.mk (KeepBut.blk hk (g' := gb345) (o := .cells #[.int .i64 t341, .int .i64 t342, .int .i64 t343, .int .i64 t344] 45 (0, 0)) (by (with_reducible repeat (first | refine blk_drewN ?_ _ | refine blk_drew ?_ | refine blk_alloc ?_ _)); exact BK345.out) NB345_327.out (by simp))
                          have n2_ := Aside0.mk (KeepBut.blk hk (g' := gb356) (o := .cells #[.int .i64 t346, .int .i64 t347] 33 (0, 0)) (by (with_reducible repeat (first | refine blk_drewN ?_ _ | refine blk_drew ?_ | refine blk_alloc ?_ _)); exact BK356.out) NB356_327.out (by simp))
                          have n3_ := Aside0.mk (hb)
                          have n4_ := Aside0.mk (hi)
                          clear BK338
                          clear BK345
                          clear BK356
                          clear HB
                          clear HI327
                          have BK338 := n0_
                          have BK345 := n1_
                          have BK356 := n2_
                          have HB := n3_
                          have HI327 := n4_
                          clear n0_ n1_ n2_ n3_ n4_
                          (try clear hb)
                          (try clear hb2)
                          (try clear hk)
                          (try clear hi)
                          (try clear hgn)
                          refine hK.out _ _ ⟨(blk_cell BK338.out 0).trans rfl, (blk_cell BK338.out 1).trans rfl⟩ (fun hHeld => ?_)
                          clear hK K
                          refine norm_ (a' := ?_) ?_ ?_
                          rotate_left
                          · show Act.put _ (some 72) _ = _
                            simp only [Act.put, List.setIfInBounds_toArray, List.set_cons_zero, List.set_cons_succ, i64_w, i32_w]
                            rfl
                          refine pure_ (i := 10) (N := some 73) (v := ?_) (a' := ?_) #[true, true, true, true, true, true, true, true, true, true, true, false, false] rfl rfl (any_of HT_.out (by kernel_rfl)) (fun _ _ _ h => h) (Or.inl ⟨by rfl, ?_⟩) ?_ ?_
                          rotate_left
                          · intro w'
                            go_simp
                            with_reducible rfl
                          rotate_left
                          · simp only [Act.put, List.setIfInBounds_toArray, List.set_cons_zero, List.set_cons_succ, i64_w, i32_w]
                            rfl
                          refine pure_ (i := 11) (N := some 74) (v := ?_) (a' := ?_) #[true, true, true, true, true, true, true, true, true, true, true, true, false] rfl rfl (any_of HT_.out (by kernel_rfl)) (fun _ _ _ h => h) (Or.inl ⟨by rfl, ?_⟩) ?_ ?_
                          rotate_left
                          · intro w'
                            go_simp
                            with_reducible rfl
                          rotate_left
                          · simp only [Act.put, List.setIfInBounds_toArray, List.set_cons_zero, List.set_cons_succ, i64_w, i32_w]
                            rfl
                          refine pure_ (i := 12) (N := some 75) (v := ?_) (a' := ?_) #[true, true, true, true, true, true, true, true, true, true, true, true, true] rfl rfl (any_of HT_.out (by kernel_rfl)) (fun _ _ _ h => h) (Or.inl ⟨by rfl, ?_⟩) ?_ ?_
                          rotate_left
                          · intro w'
                            go_simp
                            with_reducible rfl
                          rotate_left
                          · simp only [Act.put, List.setIfInBounds_toArray, List.set_cons_zero, List.set_cons_succ, i64_w, i32_w]
                            rfl
                          refine done_ (done_of HT_.out (by kernel_rfl)) ?_
                          try go_wp2
                          go_meet
                          case rel => exact ⟨_, (decide (t384 ≥ (ji59))), (t394), (t395), (t396), (t397), (t398), (t399), (t400), (by first | rfl | (simp; done) | (simp only [← hji59] <;> (first | rfl | simp)) | (simp [*]; done)), H', ⟨by have := HK1.out; have := HJ11.out; have := HJ18.out; first | omega | exact Nat.le_refl _⟩, ⟨by (with_reducible repeat (first | refine blk_drewN ?_ _ | refine blk_drew ?_ | refine blk_alloc ?_ _)); exact BK338.out⟩, ⟨by (with_reducible repeat (first | refine blk_drewN ?_ _ | refine blk_drew ?_ | refine blk_alloc ?_ _)); exact BK345.out⟩, ⟨by (with_reducible repeat (first | refine blk_drewN ?_ _ | refine blk_drew ?_ | refine blk_alloc ?_ _)); exact BK356.out⟩, ⟨by repeat (first | (with_reducible first | exact HI327.out | apply IsS51.alloc | apply IsS51.drewN | apply IsS51.drew | apply IsS51.set_0 | apply IsS51.set_1 | apply IsS51.set_2 | apply IsS51.set_3 | apply IsS51.set_4 | apply IsS51.set_5 | apply IsS51.set_6 | refine IsS51.far ?_ NB327_338.out _ | refine IsS51.far ?_ NB327_345.out _ | refine IsS51.far ?_ NB327_356.out _) | exact HI327.out)⟩, ⟨by repeat (first | (with_reducible first | exact HB.out | apply below_alloc | apply pw_below_drewN | apply below_drew1 | refine below_set ?_ (IsS51.ge HI327.out) | refine below_set ?_ GE338.out | refine below_set ?_ GE345.out | refine below_set ?_ GE356.out) | exact HB.out)⟩⟩
                      case rest =>
                        clear HC50
                        try clear c1
                        try clear c2
                        try clear p2
                        try clear c3
                        try clear p3
                        try clear q3
                        try clear hx3
                        try clear c4
                        try clear c5
                        try clear c5b0
                        try clear c5b1
                        try clear c7
                        try clear c9
                        try clear c10
                        try clear c12
                        try clear c13
                        try clear c13b0
                        try clear c14
                        try clear c15
                        try clear c15b0
                        try clear c16
                        try clear c16b0
                        try clear c21
                        try clear c22
                        try clear c23
                        try clear c24
                        try clear c25
                        try clear c27
                        try clear c28
                        try clear c29
                        try clear c31
                        try clear c33
                        try clear p34
                        try clear q34
                        try clear hx34
                        try clear c35
                        try clear c35b0
                        try clear c37
                        try clear c37b0
                        try clear c43
                        try clear c44
                        try clear c45
                        try clear c47
                        try clear c48
                        try clear c53
                        try clear hcz11_0
                        try clear hcz11_1
                        try clear hcz24_0
                        try clear hcz24_1
                        try clear hcz24_2
                        try clear hcz24_3
                        try clear hcz30_0
                        try clear hcz30_1
                        try clear hcz46_0
                        try clear hcz46_1
                        try clear hcz49_0
                        try clear hcz49_1
                        try clear hfz11_0
                        try clear hfz11_1
                        try clear hfz24_0
                        try clear hfz24_1
                        try clear hfz24_2
                        try clear hfz24_3
                        try clear hfz30_0
                        try clear hfz30_1
                        try clear hfz46_0
                        try clear hfz46_1
                        try clear hfz49_0
                        try clear hfz49_1
                        try clear hx340_0
                        try clear hx340_1
                        try clear hx340_2
                        try clear hx340_3
                        try clear p2
                        try clear p3
                        try clear p34
                        try clear p340
                        try clear q3
                        try clear q34
                        try clear q340
                        obtain ⟨kq, x75_49, x328000_49, x328001_49, x328002_49, x328003_49, x328004_49, x328005_49, x328006_49, rfl, HA, HJ49, BK338, BK345, BK356, HI327, HB⟩ := hcut
                        cases kq with
                        | zero => exact absurd HA.out (by simp [scriptoriumlaw06_ClockRises.j3])
                        | succ kj49 =>
                          have H := HA.out
                          clear HA
                          simp only [scriptoriumlaw06_ClockRises.j3] at H
                          by_cases c65 : x75_49 = true
                          · subst c65
                            have H1 : (some false) = some r := by rw [if_pos rfl] at H; exact H
                            clear H
                            have H := H1
                            clear H1
                            exact absurd (Option.some.inj (H.trans (congrArg some hrt))) (by decide)
                          · replace c65 := Bool.eq_false_iff.mpr c65
                            subst c65
                            have H1 : ((clock_Clock_Last.f x328000_49 x328001_49 x328002_49 x328003_49 x328004_49 x328005_49 x328006_49).bind fun bt401 => ((stamp_Max.f (([(⟨x339000_18, x339001_18⟩ : S33), (⟨bt401.1, bt401.2.1⟩ : S33)] : List (S33)))).bind fun bt413 => (scriptoriumlaw06_ClockRises.l0 kj49 l1 (wrap64 (x8_1 + 1)) bt401.2.2.1 bt401.2.2.2.1 bt401.2.2.2.2.1 bt401.2.2.2.2.2.1 bt401.2.2.2.2.2.2.1 bt401.2.2.2.2.2.2.2.1 bt401.2.2.2.2.2.2.2.2 bt413.1 bt413.2))) = some r := by rw [if_neg (show ¬ (false = true) by decide)] at H; exact H
                            clear H
                            have H := H1
                            clear H1
                            replace H := Option.bind_eq_some_iff.mp H
                            obtain ⟨⟨t401, t402, t403, t404, t405, t406, t407, t408, t409⟩, A660, H⟩ := H
                            replace H : ((stamp_Max.f (([(⟨x339000_18, x339001_18⟩ : S33), (⟨t401, t402⟩ : S33)] : List (S33)))).bind fun bt413 => (scriptoriumlaw06_ClockRises.l0 kj49 l1 (wrap64 (x8_1 + 1)) t403 t404 t405 t406 t407 t408 t409 bt413.1 bt413.2)) = some r := H
                            have A66 := Aside0.mk A660
                            clear A660
                            obtain ⟨y410, hy410⟩ : ∃ y_ : List (S33), y_ = (([(⟨x339000_18, x339001_18⟩ : S33), (⟨t401, t402⟩ : S33)] : List (S33))) := ⟨_, rfl⟩
                            replace H : ((stamp_Max.f y410).bind fun bt413 => (scriptoriumlaw06_ClockRises.l0 kj49 l1 (wrap64 (x8_1 + 1)) t403 t404 t405 t406 t407 t408 t409 bt413.1 bt413.2)) = some r := by first | (rw [hy410]; with_reducible exact H) | (have H2_ := (Option.bind_some _ _).symm.trans H; rw [hy410]; with_reducible exact H2_) | (have H2_ := (Option.bind_some _ _).symm.trans H; with_reducible exact H2_) | with_reducible exact H | (rw [hy410]; exact H) | exact H
                            have Ny410 := Aside0.mk hy410
                            clear hy410
                            replace H := Option.bind_eq_some_iff.mp H
                            obtain ⟨⟨t413, t414⟩, A670, H⟩ := H
                            replace H : (scriptoriumlaw06_ClockRises.l0 kj49 l1 (wrap64 (x8_1 + 1)) t403 t404 t405 t406 t407 t408 t409 t413 t414) = some r := H
                            have A67 := Aside0.mk A670
                            clear A670
                            have H' := Aside0.mk H
                            clear H
                            try go_wp2
                            have n0_ := Aside0.mk (blk_drew BK338.out)
                            have n1_ := Aside0.mk (blk_drew BK345.out)
                            have n2_ := Aside0.mk (blk_drew BK356.out)
                            have n3_ := Aside0.mk (IsS51.drew HI327.out)
                            have n4_ := Aside0.mk (below_drew1 HB.out)
                            clear BK338
                            clear BK345
                            clear BK356
                            clear HI327
                            clear HB
                            have BK338 := n0_
                            have BK345 := n1_
                            have BK356 := n2_
                            have HI327 := n3_
                            have HB := n4_
                            clear n0_ n1_ n2_ n3_ n4_
                            refine start_ (n := 6) (S := fun w' => w'.cell? ⟨gb338, 0, none⟩ = some (.int .i64 x339000_18) ∧ w'.cell? ⟨gb338, 1, none⟩ = some (.int .i64 x339001_18)) (ds := [5]) #[false, false, false, false, false, false] (by kernel_rfl) rfl rfl ⟨(blk_cell BK338.out 0).trans rfl, (blk_cell BK338.out 1).trans rfl⟩ (fun hHeld => ?_)
                            generalize wc.drew = w68 at BK338 BK345 BK356 HI327 HB hHeld ⊢
                            refine pure_ (i := 1) (N := some 77) (v := ?_) (a' := ?_) #[false, true, false, false, false, false] rfl rfl (by kernel_rfl) (fun _ _ _ h => h) (Or.inl ⟨by rfl, ?_⟩) ?_ ?_
                            rotate_left
                            · intro w'
                              go_simp
                              with_reducible rfl
                            rotate_left
                            · simp only [Act.put, List.setIfInBounds_toArray, List.set_cons_zero, List.set_cons_succ, i64_w, i32_w]
                              rfl
                            refine take_ (i := 0) (N := some 76) (v := ?_) (a' := ?_) #[true, true, false, false, false, false] rfl rfl (by kernel_rfl) (fun _ _ _ h => h) (Or.inl ⟨by rfl, ?_⟩) hHeld ?_ ?_
                            rotate_left
                            · rintro w' ⟨s0, s1⟩
                              go_simp
                              with_reducible rfl
                            rotate_left
                            · simp only [Act.put, List.setIfInBounds_toArray, List.set_cons_zero, List.set_cons_succ, i64_w, i32_w]
                              rfl
                            refine one_ (i := 2) (N := some 78) #[true, true, true, false, false, false] rfl rfl (by kernel_rfl) (by decide) (fun K hK => ?_)
                            refine goes_ Try.func21 (by kernel_rfl) rfl #[.pointer (some ⟨g327, 0, none⟩)] (by rfl) rfl rfl (by (try simp only [List.map_toArray, List.map_cons, List.map_nil]); first | done | rfl | (simp only [List.length_drop, List.length_take]; rfl)) ?_
                            with_reducible refine (clock_Clock_Last.calls g327 x328000_49 x328001_49 x328002_49 x328003_49 x328004_49 x328005_49 x328006_49 t401 t402 t403 t404 t405 t406 t407 t408 t409 w _ ?side1 ?side2 A66.out).mono ?_
                            (case side1 => repeat (first | (with_reducible first | exact HI327.out | apply IsS51.alloc | apply IsS51.drewN | apply IsS51.drew | apply IsS51.set_0 | apply IsS51.set_1 | apply IsS51.set_2 | apply IsS51.set_3 | apply IsS51.set_4 | apply IsS51.set_5 | apply IsS51.set_6 | refine IsS51.far ?_ NB327_338.out _ | refine IsS51.far ?_ NB327_345.out _ | refine IsS51.far ?_ NB327_356.out _) | exact HI327.out))
                            (case side2 => repeat (first | (with_reducible first | exact HB.out | apply below_alloc | apply pw_below_drewN | apply below_drew1 | refine below_set ?_ (IsS51.ge HI327.out) | refine below_set ?_ GE338.out | refine below_set ?_ GE345.out | refine below_set ?_ GE356.out) | exact HB.out))
                            rintro e w69 ⟨rfl, hi, hb, hk⟩
                            refine ⟨_, rfl, ?_⟩
                            have n0_ := Aside0.mk (KeepBut.blk hk (g' := gb338) (o := .cells #[.int .i64 x339000_18, .int .i64 x339001_18] 33 (0, 0)) (by (with_reducible repeat (first | refine blk_drewN ?_ _ | refine blk_drew ?_ | refine blk_alloc ?_ _)); exact BK338.out) NB338_327.out (by simp))
                            have n1_ := Aside0.mk (KeepBut.blk hk (g' := gb345) (o := .cells #[.int .i64 t341, .int .i64 t342, .int .i64 t343, .int .i64 t344] 45 (0, 0)) (by (with_reducible repeat (first | refine blk_drewN ?_ _ | refine blk_drew ?_ | refine blk_alloc ?_ _)); exact BK345.out) NB345_327.out (by simp))
                            have n2_ := Aside0.mk (KeepBut.blk hk (g' := gb356) (o := .cells #[.int .i64 t346, .int .i64 t347] 33 (0, 0)) (by (with_reducible repeat (first | refine blk_drewN ?_ _ | refine blk_drew ?_ | refine blk_alloc ?_ _)); exact BK356.out) NB356_327.out (by simp))
                            have n3_ := Aside0.mk (hb)
                            have n4_ := Aside0.mk (hi)
                            clear BK338
                            clear BK345
                            clear BK356
                            clear HB
                            clear HI327
                            have BK338 := n0_
                            have BK345 := n1_
                            have BK356 := n2_
                            have HB := n3_
                            have HI327 := n4_
                            clear n0_ n1_ n2_ n3_ n4_
                            (try clear hb)
                            (try clear hb2)
                            (try clear hk)
                            (try clear hi)
                            (try clear hgn)
                            refine hK.out _ _ ⟨(blk_cell BK338.out 0).trans rfl, (blk_cell BK338.out 1).trans rfl⟩ (fun hHeld => ?_)
                            clear hK K
                            refine norm_ (a' := ?_) ?_ ?_
                            rotate_left
                            · show Act.put _ (some 78) _ = _
                              simp only [Act.put, List.setIfInBounds_toArray, List.set_cons_zero, List.set_cons_succ, i64_w, i32_w]
                              rfl
                            refine one_ (i := 3) (N := some 79) #[true, true, true, true, false, false] rfl rfl (by kernel_rfl) (by decide) (fun K hK => ?_)
                            refine Kd.R_lit_step k33 _ 33 ?hg (N := 79) ?hd (xs := ([(⟨x339000_18, x339001_18⟩ : S33), (⟨t401, t402⟩ : S33)] : List (S33))) (inner := [.int .i64 x339000_18, .int .i64 x339001_18, .int .i64 t401, .int .i64 t402]) (ok := fun _ => True) (okp := fun _ => True) ?hr ?hp (fun _ hk => hk) trivial (Below.refl _ _) (Nat.le_refl _) (by simp) ?_; (case hd => rfl); (case hg => rfl); (case hr => first | (go_simp; done) | (go_simp; rfl)); (case hp => exact (Reps.c2 (show Kd.M k33 _ _ _ (⟨x339000_18, x339001_18⟩ : S33) [.int .i64 x339000_18, .int .i64 x339001_18] from (k33_mkM _ _ _ (⟨x339000_18, x339001_18⟩ : S33) )) (Reps.c2 (show Kd.M k33 _ _ _ (⟨t401, t402⟩ : S33) [.int .i64 t401, .int .i64 t402] from (k33_mkM _ _ _ (⟨t401, t402⟩ : S33) )) (Reps.none _ _))))
                            intro v411 w70 ho71 hb hg_ hnew_
                            clear hg_ hnew_
                            (first | rw [← Ny410.out] at ho71 | (simp only [Int.reduceToNat] at ho71; rw [← Ny410.out] at ho71))
                            have n0_ := Aside0.mk (Kd.R_lower (Kd.R_newB (Kd.R_newB ho71 (g := gb338) (o := .cells #[.int .i64 x339000_18, .int .i64 x339001_18] 33 (0, 0)) (by (with_reducible repeat (first | refine blk_drewN ?_ _ | refine blk_drew ?_ | refine blk_alloc ?_ _)); exact BK338.out)) (g := gb356) (o := .cells #[.int .i64 t346, .int .i64 t347] 33 (0, 0)) (by (with_reducible repeat (first | refine blk_drewN ?_ _ | refine blk_drew ?_ | refine blk_alloc ?_ _)); exact BK356.out)) (below_size (by repeat (first | (with_reducible first | exact HB.out | apply below_alloc | apply pw_below_drewN | apply below_drew1 | refine below_set ?_ (IsS51.ge HI327.out) | refine below_set ?_ GE338.out | refine below_set ?_ GE345.out | refine below_set ?_ GE356.out) | exact HB.out))))
                            have n1_ := Aside0.mk (blk_below (g := gb338) (o := .cells #[.int .i64 x339000_18, .int .i64 x339001_18] 33 (0, 0)) (by (with_reducible repeat (first | refine blk_drewN ?_ _ | refine blk_drew ?_ | refine blk_alloc ?_ _)); exact BK338.out) hb)
                            have n2_ := Aside0.mk (blk_below (g := gb345) (o := .cells #[.int .i64 t341, .int .i64 t342, .int .i64 t343, .int .i64 t344] 45 (0, 0)) (by (with_reducible repeat (first | refine blk_drewN ?_ _ | refine blk_drew ?_ | refine blk_alloc ?_ _)); exact BK345.out) hb)
                            have n3_ := Aside0.mk (blk_below (g := gb356) (o := .cells #[.int .i64 t346, .int .i64 t347] 33 (0, 0)) (by (with_reducible repeat (first | refine blk_drewN ?_ _ | refine blk_drew ?_ | refine blk_alloc ?_ _)); exact BK356.out) hb)
                            have n4_ := Aside0.mk (IsS51.below (by repeat (first | (with_reducible first | exact HI327.out | apply IsS51.alloc | apply IsS51.drewN | apply IsS51.drew | apply IsS51.set_0 | apply IsS51.set_1 | apply IsS51.set_2 | apply IsS51.set_3 | apply IsS51.set_4 | apply IsS51.set_5 | apply IsS51.set_6 | refine IsS51.far ?_ NB327_338.out _ | refine IsS51.far ?_ NB327_345.out _ | refine IsS51.far ?_ NB327_356.out _) | exact HI327.out)) hb)
                            have n5_ := Aside0.mk (below_step (by repeat (first | (with_reducible first | exact HB.out | apply below_alloc | apply pw_below_drewN | apply below_drew1 | refine below_set ?_ (IsS51.ge HI327.out) | refine below_set ?_ GE338.out | refine below_set ?_ GE345.out | refine below_set ?_ GE356.out) | exact HB.out)) hb)
                            clear BK338
                            clear BK345
                            clear BK356
                            clear HI327
                            clear HB
                            have HO412 := n0_
                            have BK338 := n1_
                            have BK345 := n2_
                            have BK356 := n3_
                            have HI327 := n4_
                            have HB := n5_
                            clear n0_ n1_ n2_ n3_ n4_ n5_
                            clear hb ho71
                            obtain ⟨Ao72, co72, eo72⟩ := Kd.R_slice HO412.out
                            (first | subst eo72 | (injection eo72 with f1_ f2_ f3_; have f4_ := f1_.symm; have f5_ := f3_.symm; clear f1_ f2_ f3_; subst f4_; subst f5_))
                            refine hK.out _ _ ⟨(blk_cell BK338.out 0).trans rfl, (blk_cell BK338.out 1).trans rfl⟩ (fun hHeld => ?_)
                            clear hK K
                            refine norm_ (a' := ?_) ?_ ?_
                            rotate_left
                            · show Act.put _ (some 79) _ = _
                              simp only [Act.put, List.setIfInBounds_toArray, List.set_cons_zero, List.set_cons_succ, i64_w, i32_w]
                              rfl
                            refine one_ (i := 4) (N := some 80) #[true, true, true, true, true, false] rfl rfl (by kernel_rfl) (by decide) (fun K hK => ?_)
                            refine goes_ Try.func26 (by kernel_rfl) rfl #[.slice Ao72 y410.length co72] (by rfl) rfl rfl (by (try simp only [List.map_toArray, List.map_cons, List.map_nil]); first | done | rfl | (simp only [List.length_drop, List.length_take]; rfl)) ?_
                            with_reducible refine (stamp_Max.calls _ _ y410 t413 t414 _ ?side1 ?side2 A67.out).mono ?_
                            (case side1 => repeat (first | exact (Kd.R_reads' HO412.out).2.2 | (with_reducible refine Kd.C_alloc ?_ _) | (with_reducible refine Kd.C_drewN ?_ _) | (with_reducible refine Kd.C_drew ?_)))
                            (case side2 => exact (Kd.R_reads' HO412.out).2.1)
                            rintro e w73 ⟨rfl, hb⟩
                            refine ⟨_, rfl, ?_⟩
                            have n0_ := Aside0.mk (Kd.R_below (by (with_reducible repeat (first | apply Kd.R_alloc | apply Kd.R_drewN | apply Kd.R_drew)); exact HO412.out) hb)
                            have n1_ := Aside0.mk (blk_below (g := gb338) (o := .cells #[.int .i64 x339000_18, .int .i64 x339001_18] 33 (0, 0)) (by (with_reducible repeat (first | refine blk_drewN ?_ _ | refine blk_drew ?_ | refine blk_alloc ?_ _)); exact BK338.out) hb)
                            have n2_ := Aside0.mk (blk_below (g := gb345) (o := .cells #[.int .i64 t341, .int .i64 t342, .int .i64 t343, .int .i64 t344] 45 (0, 0)) (by (with_reducible repeat (first | refine blk_drewN ?_ _ | refine blk_drew ?_ | refine blk_alloc ?_ _)); exact BK345.out) hb)
                            have n3_ := Aside0.mk (blk_below (g := gb356) (o := .cells #[.int .i64 t346, .int .i64 t347] 33 (0, 0)) (by (with_reducible repeat (first | refine blk_drewN ?_ _ | refine blk_drew ?_ | refine blk_alloc ?_ _)); exact BK356.out) hb)
                            have n4_ := Aside0.mk (IsS51.below (by repeat (first | (with_reducible first | exact HI327.out | apply IsS51.alloc | apply IsS51.drewN | apply IsS51.drew | apply IsS51.set_0 | apply IsS51.set_1 | apply IsS51.set_2 | apply IsS51.set_3 | apply IsS51.set_4 | apply IsS51.set_5 | apply IsS51.set_6 | refine IsS51.far ?_ NB327_338.out _ | refine IsS51.far ?_ NB327_345.out _ | refine IsS51.far ?_ NB327_356.out _) | exact HI327.out)) hb)
                            have n5_ := Aside0.mk (below_step (by repeat (first | (with_reducible first | exact HB.out | apply below_alloc | apply pw_below_drewN | apply below_drew1 | refine below_set ?_ (IsS51.ge HI327.out) | refine below_set ?_ GE338.out | refine below_set ?_ GE345.out | refine below_set ?_ GE356.out) | exact HB.out)) hb)
                            clear HO412
                            clear BK338
                            clear BK345
                            clear BK356
                            clear HI327
                            clear HB
                            have HO412 := n0_
                            have BK338 := n1_
                            have BK345 := n2_
                            have BK356 := n3_
                            have HI327 := n4_
                            have HB := n5_
                            clear n0_ n1_ n2_ n3_ n4_ n5_
                            (try clear hb)
                            (try clear hb2)
                            (try clear hk)
                            (try clear hi)
                            (try clear hgn)
                            refine hK.out _ _ ⟨(blk_cell BK338.out 0).trans rfl, (blk_cell BK338.out 1).trans rfl⟩ (fun hHeld => ?_)
                            clear hK K
                            refine norm_ (a' := ?_) ?_ ?_
                            rotate_left
                            · show Act.put _ (some 80) _ = _
                              simp only [Act.put, List.setIfInBounds_toArray, List.set_cons_zero, List.set_cons_succ, i64_w, i32_w]
                              rfl
                            refine last_ (i := 5) (N := none) #[true, true, true, true, true, true] rfl rfl (by kernel_rfl) (by decide) (fun K hK => ?_)
                            have hs74 : w73.cell? ⟨gb338, 0, none⟩ = some (.int .i64 x339000_18) := (blk_cell BK338.out 0).trans rfl
                            have hfs74 := blk_frozen BK338.out 0
                            have hns74_1 := NB345_338.out
                            have hns74_2 := NB356_338.out
                            have hms74_1 := NB338_345.out
                            have hms74_2 := NB338_356.out
                            have hs75 : w73.cell? ⟨gb338, 1, none⟩ = some (.int .i64 x339001_18) := (blk_cell BK338.out 1).trans rfl
                            have hfs75 := blk_frozen BK338.out 1
                            have hns75_1 := NB345_338.out
                            have hns75_2 := NB356_338.out
                            have hms75_1 := NB338_345.out
                            have hms75_2 := NB338_356.out
                            refine skip_ (w1 := ?_) (by rfl) rfl ?_ ?_
                            rotate_left
                            · go_simp
                              rfl
                            refine hK.out _ _ ?_
                            clear hK K
                            refine done_ (by kernel_rfl) ?_
                            try go_wp2
                            go_roundg kj49
                            case measure => have := HK1.out; have := HJ11.out; have := HJ18.out; have := HJ49.out; omega
                            case rel => exact ⟨(wrap64 (x8_1 + 1)), (t403), (t404), (t405), (t406), (t407), (t408), (t409), (t413), (t414), (by first | rfl | (simp; done) | (simp [*]; done)), H', ⟨by have := HK1.out; have := HJ11.out; have := HJ18.out; have := HJ49.out; omega⟩, ⟨by (with_reducible repeat (first | refine blk_drewN ?_ _ | refine blk_drew ?_ | refine blk_alloc ?_ _)); refine blk_put (cs := #[.int .i64 t413, .int .i64 x339001_18]) ?_ 1 _ rfl; (with_reducible repeat (first | refine blk_drewN ?_ _ | refine blk_drew ?_ | refine blk_alloc ?_ _)); refine blk_put (cs := #[.int .i64 x339000_18, .int .i64 x339001_18]) ?_ 0 _ rfl; (with_reducible repeat (first | refine blk_drewN ?_ _ | refine blk_drew ?_ | refine blk_alloc ?_ _)); exact BK338.out⟩, ⟨by repeat (first | (with_reducible first | exact HI327.out | apply IsS51.alloc | apply IsS51.drewN | apply IsS51.drew | apply IsS51.set_0 | apply IsS51.set_1 | apply IsS51.set_2 | apply IsS51.set_3 | apply IsS51.set_4 | apply IsS51.set_5 | apply IsS51.set_6 | refine IsS51.far ?_ NB327_338.out _ | refine IsS51.far ?_ NB327_345.out _ | refine IsS51.far ?_ NB327_356.out _) | exact HI327.out)⟩, ⟨by repeat (first | (with_reducible first | exact HB.out | apply below_alloc | apply pw_below_drewN | apply below_drew1 | refine below_set ?_ (IsS51.ge HI327.out) | refine below_set ?_ GE338.out | refine below_set ?_ GE345.out | refine below_set ?_ GE356.out) | exact HB.out)⟩⟩
                · rw [if_neg c16] at H
                  exact absurd H (by simp)
              · rw [if_neg c15] at H
                exact absurd H (by simp)
            · replace c14 := Bool.eq_false_iff.mpr c14
              subst c14
              have H1 : ((scriptoriumlaw06_awake.f kj11).bind fun t339 => (some t339)) = some r := by rw [if_neg (show ¬ (false = true) by decide)] at H; exact H
              clear H
              have H := H1
              clear H1
              replace H := Option.bind_eq_some_iff.mp H
              obtain ⟨t339, A760, H⟩ := H
              replace H : (some t339) = some r := H
              have A76 := Aside0.mk A760
              clear A760
              obtain rfl := Option.some.inj H
              go_wp2_with (first | ((with_reducible refine gate_callee (f := 16) rfl ?_); refine goesL_ (some 81) rfl rfl Try.func16 (by kernel_rfl) rfl #[] rfl (by (try simp only [List.map_toArray, List.map_cons, List.map_nil]); first | done | rfl | (simp only [List.length_drop, List.length_take]; rfl)) ?_; (with_reducible refine (scriptoriumlaw06_awake.calls kj11  t339 _ A76.out).mono ?_); rintro e w77 ⟨rfl, hb⟩; refine ⟨_, rfl, ?_⟩; have n0_ := Aside0.mk (blk_below (g := gb338) (o := .cells #[.int .i64 x339000_1, .int .i64 x339001_1] 33 (0, 0)) (by (with_reducible repeat (first | refine blk_drewN ?_ _ | refine blk_drew ?_ | refine blk_alloc ?_ _)); exact BK338.out) hb); have n1_ := Aside0.mk (IsS51.below (by repeat (first | (with_reducible first | exact HI327.out | apply IsS51.alloc | apply IsS51.drewN | apply IsS51.drew | apply IsS51.set_0 | apply IsS51.set_1 | apply IsS51.set_2 | apply IsS51.set_3 | apply IsS51.set_4 | apply IsS51.set_5 | apply IsS51.set_6 | refine IsS51.far ?_ NB327_338.out _) | exact HI327.out)) hb); have n2_ := Aside0.mk (below_step (by repeat (first | (with_reducible first | exact HB.out | apply below_alloc | apply pw_below_drewN | apply below_drew1 | refine below_set ?_ (IsS51.ge HI327.out) | refine below_set ?_ GE338.out) | exact HB.out)) hb); clear BK338; clear HI327; clear HB; have BK338 := n0_; have HI327 := n1_; have HB := n2_; clear n0_ n1_ n2_; (try clear hb); (try clear hb2); (try clear hk); (try clear hi); (try clear hgn)))
              go_ret
              exact ⟨by first | rfl | (simp [errW_none, errW_some] <;> rfl) | (simp [*, errW_none, errW_some] <;> rfl), by repeat (first | (with_reducible first | exact HB.out | apply below_alloc | apply pw_below_drewN | apply below_drew1 | refine below_set ?_ (IsS51.ge HI327.out) | refine below_set ?_ GE338.out) | exact HB.out)⟩
  · rw [if_neg c5] at H
    have c5b0 : (t328 == 0) = false := beq_eq_false_iff_ne.mpr c5
    have c5b1 : (t328 != 0) = true := bne_iff_ne.mpr c5
    exact absurd (Option.some.inj (H.trans (congrArg some hrt))) (by decide)

/-- THE ONE PURE STATEMENT of scriptoriumlaw06_ClockRises: yours. -/
def scriptoriumlaw06_ClockRises.Pure : Prop := ∀ (a0 : Int) (a1 : List (S45)), (Lit.int .i64 a0).wf = true → (a1.length ≤ maxLen ∧ a1.length * 32 ≤ 140737488351232 ∧ ∀ y0 ∈ a1, ((Lit.int .i64 y0.f0).wf = true ∧ (Lit.int .i64 y0.f1).wf = true ∧ ((Lit.int .i64 y0.f2.f0).wf = true ∧ (Lit.int .i64 y0.f2.f1).wf = true))) → ∃ k, scriptoriumlaw06_ClockRises.f k a0 a1 = some true
theorem scriptoriumlaw06_ClockRises.walk (P : scriptoriumlaw06_ClockRises.Pure) (a0 : Int) (a1 : List (S45)) (A1 : Option Addr) (c1 : Nat) (w : World) (w0 : (Lit.int .i64 a0).wf = true) (w1 : (a1.length ≤ maxLen ∧ a1.length * 32 ≤ 140737488351232 ∧ ∀ y0 ∈ a1, ((Lit.int .i64 y0.f0).wf = true ∧ (Lit.int .i64 y0.f1).wf = true ∧ ((Lit.int .i64 y0.f2.f0).wf = true ∧ (Lit.int .i64 y0.f2.f1).wf = true)))) (hr1 : Kd.C k45 w A1 a1.length a1) (hc1 : a1.length ≤ c1) :
    Calls Try.prog 7 #[.int .i64 a0, .slice A1 a1.length c1] w fun e w' => e = .returned (.bool true) ∧ Below w.heap.size w w' := by
  obtain ⟨k, h⟩ := P a0 a1 w0 w1
  refine (scriptoriumlaw06_ClockRises.calls k a0 A1 c1 a1 true w hr1 hc1 h rfl).mono ?_
  rintro e w' ⟨rfl, hd⟩
  exact ⟨rfl, hd⟩

end Go.Proofs.Ythhgoiabkgfdfaa.PClockRises
