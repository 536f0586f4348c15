/- Written by xprint.py, a program of these sessions (over the print of the kit, with leaves typed by hand): one Lean function for each Go function, and the proof that the Go code comes to its answers. -/
import Derived.Test.YthhgoiabkgfdfaaPClockAnewx0
import Derived.Test.YthhgoiabkgfdfaaPClockAnewx2
import Derived.Test.YthhgoiabkgfdfaaPClockAnewx3
import Derived.Test.YthhgoiabkgfdfaaPClockAnewx5
namespace Go.Proofs.Ythhgoiabkgfdfaa.PClockAnew
open Go.RowKit Go.Proofs.YthhgoiabkgfdfaaW.PrintWords Go.Proofs.YthhgoiabkgfdfaaW.PrintLast Go.Proofs.YthhgoiabkgfdfaaW.PrintMore
attribute [local go_sem] max2_int min2_int max_two min_two max_three min_three max_four min_four   -- for this text's walks alone
attribute [local go_sem] fld_wall fld_logic
set_option linter.unusedVariables false
set_option linter.unusedSimpArgs false

/-! ### scriptoriumlaw06_ClockAnew: function 8 -/
mutual
def scriptoriumlaw06_ClockAnew.l0 : Nat → List (S45) → List (S45) → Int → Int → Int → Int → Int → Int → Int → Bool → Option (Bool)
  | 0, _, _, _, _, _, _, _, _, _, _ => none
  | k + 1, x0, x1, x7, x327000, x327001, x327002, x327003, x327004, x327005, x327006 => if x7 < (x0.length : Int) then (scriptoriumlaw06_ClockAnew.j1 k x0 x1 x7 (decide (x7 < 100)) x327000 x327001 x327002 x327003 x327004 x327005 x327006) else (scriptoriumlaw06_ClockAnew.j1 k x0 x1 x7 false x327000 x327001 x327002 x327003 x327004 x327005 x327006)
def scriptoriumlaw06_ClockAnew.j1 : Nat → List (S45) → List (S45) → Int → Bool → Int → Int → Int → Int → Int → Int → Bool → Option (Bool)
  | 0, _, _, _, _, _, _, _, _, _, _, _ => none
  | k + 1, x0, x1, x7, x26, x327000, x327001, x327002, x327003, x327004, x327005, x327006 => if x26 = true then (if 0 ≤ x7 then (if x7 < (x0.length : Int) then ((scriptoriumlaw06_bring.f ((rd_T45 x0 x7).f0) ((rd_T45 x0 x7).f1) ((rd_T45 x0 x7).f2.f0) ((rd_T45 x0 x7).f2.f1)).bind fun bt329 => ((scriptoriumlaw06_does.f x327000 x327001 x327002 x327003 x327004 x327005 x327006 bt329.1 bt329.2.1 bt329.2.2.1 bt329.2.2.2).bind fun bt333 => (scriptoriumlaw06_ClockAnew.l0 k x0 x1 (wrap64 (x7 + 1)) bt333.2.2.2.1 bt333.2.2.2.2.1 bt333.2.2.2.2.2.1 bt333.2.2.2.2.2.2.1 bt333.2.2.2.2.2.2.2.1 bt333.2.2.2.2.2.2.2.2.1 bt333.2.2.2.2.2.2.2.2.2))) else (none)) else (none)) else ((clock_Clock_Bound.f x327000 x327001 x327002 x327003 x327004 x327005 x327006).bind fun bt343 => ((clock_New.f 30 bt343.1).bind fun bt351 => (if bt351.2.2.2.2.2.2.2 = 0 then ((clock_Clock_Last.f bt351.1 bt351.2.1 bt351.2.2.1 bt351.2.2.2.1 bt351.2.2.2.2.1 bt351.2.2.2.2.2.1 bt351.2.2.2.2.2.2.1).bind fun bt360 => ((clock_Clock_Last.f bt343.2.1 bt343.2.2.1 bt343.2.2.2.1 bt343.2.2.2.2.1 bt343.2.2.2.2.2.1 bt343.2.2.2.2.2.2.1 bt343.2.2.2.2.2.2.2).bind fun bt369 => ((stamp_Less.f k bt360.1 bt360.2.1 bt369.1 bt369.2.1).bind fun t378 => (scriptoriumlaw06_ClockAnew.j2 k x1 t378 bt369.2.2.1 bt369.2.2.2.1 bt369.2.2.2.2.1 bt369.2.2.2.2.2.1 bt369.2.2.2.2.2.2.1 bt369.2.2.2.2.2.2.2.1 bt369.2.2.2.2.2.2.2.2 bt360.2.2.1 bt360.2.2.2.1 bt360.2.2.2.2.1 bt360.2.2.2.2.2.1 bt360.2.2.2.2.2.2.1 bt360.2.2.2.2.2.2.2.1 bt360.2.2.2.2.2.2.2.2)))) else (scriptoriumlaw06_ClockAnew.j2 k x1 true bt343.2.1 bt343.2.2.1 bt343.2.2.2.1 bt343.2.2.2.2.1 bt343.2.2.2.2.2.1 bt343.2.2.2.2.2.2.1 bt343.2.2.2.2.2.2.2 bt351.1 bt351.2.1 bt351.2.2.1 bt351.2.2.2.1 bt351.2.2.2.2.1 bt351.2.2.2.2.2.1 bt351.2.2.2.2.2.2.1))))
def scriptoriumlaw06_ClockAnew.j2 : Nat → List (S45) → Bool → Int → Int → Int → Int → Int → Int → Bool → Int → Int → Int → Int → Int → Int → Bool → Option (Bool)
  | 0, _, _, _, _, _, _, _, _, _, _, _, _, _, _, _, _ => none
  | k + 1, x1, x50, x327000, x327001, x327002, x327003, x327004, x327005, x327006, x359000, x359001, x359002, x359003, x359004, x359005, x359006 => if x50 = true then (some false) else (scriptoriumlaw06_ClockAnew.l1 k x1 0 x327000 x327001 x327002 x327003 x327004 x327005 x327006 x359000 x359001 x359002 x359003 x359004 x359005 x359006)
def scriptoriumlaw06_ClockAnew.l1 : Nat → List (S45) → Int → Int → Int → Int → Int → Int → Int → Bool → Int → Int → Int → Int → Int → Int → Bool → Option (Bool)
  | 0, _, _, _, _, _, _, _, _, _, _, _, _, _, _, _, _ => none
  | k + 1, x1, x10, x327000, x327001, x327002, x327003, x327004, x327005, x327006, x359000, x359001, x359002, x359003, x359004, x359005, x359006 => if x10 < (x1.length : Int) then (scriptoriumlaw06_ClockAnew.j4 k x1 x10 (decide (x10 < 100)) x327000 x327001 x327002 x327003 x327004 x327005 x327006 x359000 x359001 x359002 x359003 x359004 x359005 x359006) else (scriptoriumlaw06_ClockAnew.j4 k x1 x10 false x327000 x327001 x327002 x327003 x327004 x327005 x327006 x359000 x359001 x359002 x359003 x359004 x359005 x359006)
def scriptoriumlaw06_ClockAnew.j4 : Nat → List (S45) → Int → Bool → Int → Int → Int → Int → Int → Int → Bool → Int → Int → Int → Int → Int → Int → Bool → Option (Bool)
  | 0, _, _, _, _, _, _, _, _, _, _, _, _, _, _, _, _, _ => none
  | k + 1, x1, x10, x58, x327000, x327001, x327002, x327003, x327004, x327005, x327006, x359000, x359001, x359002, x359003, x359004, x359005, x359006 => if x58 = true then (if 0 ≤ x10 then (if x10 < (x1.length : Int) then ((scriptoriumlaw06_bring.f ((rd_T45 x1 x10).f0) ((rd_T45 x1 x10).f1) ((rd_T45 x1 x10).f2.f0) ((rd_T45 x1 x10).f2.f1)).bind fun bt380 => ((scriptoriumlaw06_does.f x359000 x359001 x359002 x359003 x359004 x359005 x359006 bt380.1 bt380.2.1 bt380.2.2.1 bt380.2.2.2).bind fun bt384 => (if bt384.2.2.1 = true then ((clock_Clock_Last.f x327000 x327001 x327002 x327003 x327004 x327005 x327006).bind fun bt395 => ((stamp_Less.f k bt395.1 bt395.2.1 bt384.1 bt384.2.1).bind fun t404 => (if t404 = true then (scriptoriumlaw06_ClockAnew.l1 k x1 (wrap64 (x10 + 1)) bt395.2.2.1 bt395.2.2.2.1 bt395.2.2.2.2.1 bt395.2.2.2.2.2.1 bt395.2.2.2.2.2.2.1 bt395.2.2.2.2.2.2.2.1 bt395.2.2.2.2.2.2.2.2 bt384.2.2.2.1 bt384.2.2.2.2.1 bt384.2.2.2.2.2.1 bt384.2.2.2.2.2.2.1 bt384.2.2.2.2.2.2.2.1 bt384.2.2.2.2.2.2.2.2.1 bt384.2.2.2.2.2.2.2.2.2) else (some false)))) else (scriptoriumlaw06_ClockAnew.l1 k x1 (wrap64 (x10 + 1)) x327000 x327001 x327002 x327003 x327004 x327005 x327006 bt384.2.2.2.1 bt384.2.2.2.2.1 bt384.2.2.2.2.2.1 bt384.2.2.2.2.2.2.1 bt384.2.2.2.2.2.2.2.1 bt384.2.2.2.2.2.2.2.2.1 bt384.2.2.2.2.2.2.2.2.2)))) else (none)) else (none)) else ((clock_Clock_Ready.f x359000 x359001 x359002 x359003 x359004 x359005 x359006).bind fun bt405 => ((clock_Clock_Reading.f bt405.2.1 bt405.2.2.1 bt405.2.2.2.1 bt405.2.2.2.2.1 bt405.2.2.2.2.2.1 bt405.2.2.2.2.2.2.1 bt405.2.2.2.2.2.2.2).bind fun bt413 => ((clock_Clock_Bound.f x327000 x327001 x327002 x327003 x327004 x327005 x327006).bind fun bt421 => (if (bt405.1 == (decide (bt413.1 ≥ bt421.1))) = true then ((scriptoriumlaw06_awake.f k).bind fun t429 => (some t429)) else (some false)))))
end
def scriptoriumlaw06_ClockAnew.f (k : Nat) (l0 : List (S45)) (l1 : List (S45)) : Option (Bool) := (clock_New.f 30 0).bind fun bt319 => (if bt319.2.2.2.2.2.2.2 = 0 then (scriptoriumlaw06_ClockAnew.l0 k l0 l1 0 bt319.1 bt319.2.1 bt319.2.2.1 bt319.2.2.2.1 bt319.2.2.2.2.1 bt319.2.2.2.2.2.1 bt319.2.2.2.2.2.2.1) else (some false))
theorem scriptoriumlaw06_ClockAnew.mono_l : ∀ k, (∀ y0 y1 y2 y3 y4 y5 y6 y7 y8 y9, LeO (scriptoriumlaw06_ClockAnew.l0 k y0 y1 y2 y3 y4 y5 y6 y7 y8 y9) (scriptoriumlaw06_ClockAnew.l0 (k + 1) y0 y1 y2 y3 y4 y5 y6 y7 y8 y9)) ∧ (∀ y0 y1 y2 y3 y4 y5 y6 y7 y8 y9 y10, LeO (scriptoriumlaw06_ClockAnew.j1 k y0 y1 y2 y3 y4 y5 y6 y7 y8 y9 y10) (scriptoriumlaw06_ClockAnew.j1 (k + 1) y0 y1 y2 y3 y4 y5 y6 y7 y8 y9 y10)) ∧ (∀ y0 y1 y2 y3 y4 y5 y6 y7 y8 y9 y10 y11 y12 y13 y14 y15, LeO (scriptoriumlaw06_ClockAnew.j2 k y0 y1 y2 y3 y4 y5 y6 y7 y8 y9 y10 y11 y12 y13 y14 y15) (scriptoriumlaw06_ClockAnew.j2 (k + 1) y0 y1 y2 y3 y4 y5 y6 y7 y8 y9 y10 y11 y12 y13 y14 y15)) ∧ (∀ y0 y1 y2 y3 y4 y5 y6 y7 y8 y9 y10 y11 y12 y13 y14 y15, LeO (scriptoriumlaw06_ClockAnew.l1 k y0 y1 y2 y3 y4 y5 y6 y7 y8 y9 y10 y11 y12 y13 y14 y15) (scriptoriumlaw06_ClockAnew.l1 (k + 1) y0 y1 y2 y3 y4 y5 y6 y7 y8 y9 y10 y11 y12 y13 y14 y15)) ∧ (∀ y0 y1 y2 y3 y4 y5 y6 y7 y8 y9 y10 y11 y12 y13 y14 y15 y16, LeO (scriptoriumlaw06_ClockAnew.j4 k y0 y1 y2 y3 y4 y5 y6 y7 y8 y9 y10 y11 y12 y13 y14 y15 y16) (scriptoriumlaw06_ClockAnew.j4 (k + 1) y0 y1 y2 y3 y4 y5 y6 y7 y8 y9 y10 y11 y12 y13 y14 y15 y16))
  | 0 => ⟨fun _ _ _ _ _ _ _ _ _ _ r h => by simp [scriptoriumlaw06_ClockAnew.l0] at h, fun _ _ _ _ _ _ _ _ _ _ _ r h => by simp [scriptoriumlaw06_ClockAnew.j1] at h, fun _ _ _ _ _ _ _ _ _ _ _ _ _ _ _ _ r h => by simp [scriptoriumlaw06_ClockAnew.j2] at h, fun _ _ _ _ _ _ _ _ _ _ _ _ _ _ _ _ r h => by simp [scriptoriumlaw06_ClockAnew.l1] at h, fun _ _ _ _ _ _ _ _ _ _ _ _ _ _ _ _ _ r h => by simp [scriptoriumlaw06_ClockAnew.j4] at h⟩
  | k + 1 => by
    obtain ⟨ih0, ih1, ih2, ih3, ih4⟩ := scriptoriumlaw06_ClockAnew.mono_l k
    refine ⟨?_, ?_, ?_, ?_, ?_⟩
    · intro y0 y1 y2 y3 y4 y5 y6 y7 y8 y9
      unfold scriptoriumlaw06_ClockAnew.l0
      repeat' first
      | (with_reducible exact ih0 _ _ _ _ _ _ _ _ _ _)
      | (with_reducible exact ih1 _ _ _ _ _ _ _ _ _ _ _)
      | (with_reducible exact ih2 _ _ _ _ _ _ _ _ _ _ _ _ _ _ _ _)
      | (with_reducible exact ih3 _ _ _ _ _ _ _ _ _ _ _ _ _ _ _ _)
      | (with_reducible exact ih4 _ _ _ _ _ _ _ _ _ _ _ _ _ _ _ _ _)
      | (with_reducible exact scriptoriumlaw06_awake.mono _)
      | (with_reducible exact stamp_Less.mono _ _ _ _ _)
      | (with_reducible exact LeO.refl _)
      | (with_reducible exact LeO.none _)
      | (with_reducible refine LeO.ite ?_ ?_)
      | (with_reducible refine LeO.bind ?_ (fun _ => ?_))
      | exact ih0 _ _ _ _ _ _ _ _ _ _
      | exact ih1 _ _ _ _ _ _ _ _ _ _ _
      | exact ih2 _ _ _ _ _ _ _ _ _ _ _ _ _ _ _ _
      | exact ih3 _ _ _ _ _ _ _ _ _ _ _ _ _ _ _ _
      | exact ih4 _ _ _ _ _ _ _ _ _ _ _ _ _ _ _ _ _
      | exact scriptoriumlaw06_awake.mono _
      | exact stamp_Less.mono _ _ _ _ _
      | exact LeO.none _
      | refine LeO.ite ?_ ?_
      | refine LeO.bind ?_ (fun _ => ?_)
    · intro y0 y1 y2 y3 y4 y5 y6 y7 y8 y9 y10
      unfold scriptoriumlaw06_ClockAnew.j1
      repeat' first
      | (with_reducible exact ih0 _ _ _ _ _ _ _ _ _ _)
      | (with_reducible exact ih1 _ _ _ _ _ _ _ _ _ _ _)
      | (with_reducible exact ih2 _ _ _ _ _ _ _ _ _ _ _ _ _ _ _ _)
      | (with_reducible exact ih3 _ _ _ _ _ _ _ _ _ _ _ _ _ _ _ _)
      | (with_reducible exact ih4 _ _ _ _ _ _ _ _ _ _ _ _ _ _ _ _ _)
      | (with_reducible exact scriptoriumlaw06_awake.mono _)
      | (with_reducible exact stamp_Less.mono _ _ _ _ _)
      | (with_reducible exact LeO.refl _)
      | (with_reducible exact LeO.none _)
      | (with_reducible refine LeO.ite ?_ ?_)
      | (with_reducible refine LeO.bind ?_ (fun _ => ?_))
      | exact ih0 _ _ _ _ _ _ _ _ _ _
      | exact ih1 _ _ _ _ _ _ _ _ _ _ _
      | exact ih2 _ _ _ _ _ _ _ _ _ _ _ _ _ _ _ _
      | exact ih3 _ _ _ _ _ _ _ _ _ _ _ _ _ _ _ _
      | exact ih4 _ _ _ _ _ _ _ _ _ _ _ _ _ _ _ _ _
      | exact scriptoriumlaw06_awake.mono _
      | exact stamp_Less.mono _ _ _ _ _
      | exact LeO.none _
      | refine LeO.ite ?_ ?_
      | refine LeO.bind ?_ (fun _ => ?_)
    · intro y0 y1 y2 y3 y4 y5 y6 y7 y8 y9 y10 y11 y12 y13 y14 y15
      unfold scriptoriumlaw06_ClockAnew.j2
      repeat' first
      | (with_reducible exact ih0 _ _ _ _ _ _ _ _ _ _)
      | (with_reducible exact ih1 _ _ _ _ _ _ _ _ _ _ _)
      | (with_reducible exact ih2 _ _ _ _ _ _ _ _ _ _ _ _ _ _ _ _)
      | (with_reducible exact ih3 _ _ _ _ _ _ _ _ _ _ _ _ _ _ _ _)
      | (with_reducible exact ih4 _ _ _ _ _ _ _ _ _ _ _ _ _ _ _ _ _)
      | (with_reducible exact scriptoriumlaw06_awake.mono _)
      | (with_reducible exact stamp_Less.mono _ _ _ _ _)
      | (with_reducible exact LeO.refl _)
      | (with_reducible exact LeO.none _)
      | (with_reducible refine LeO.ite ?_ ?_)
      | (with_reducible refine LeO.bind ?_ (fun _ => ?_))
      | exact ih0 _ _ _ _ _ _ _ _ _ _
      | exact ih1 _ _ _ _ _ _ _ _ _ _ _
      | exact ih2 _ _ _ _ _ _ _ _ _ _ _ _ _ _ _ _
      | exact ih3 _ _ _ _ _ _ _ _ _ _ _ _ _ _ _ _
      | exact ih4 _ _ _ _ _ _ _ _ _ _ _ _ _ _ _ _ _
      | exact scriptoriumlaw06_awake.mono _
      | exact stamp_Less.mono _ _ _ _ _
      | exact LeO.none _
      | refine LeO.ite ?_ ?_
      | refine LeO.bind ?_ (fun _ => ?_)
    · intro y0 y1 y2 y3 y4 y5 y6 y7 y8 y9 y10 y11 y12 y13 y14 y15
      unfold scriptoriumlaw06_ClockAnew.l1
      repeat' first
      | (with_reducible exact ih0 _ _ _ _ _ _ _ _ _ _)
      | (with_reducible exact ih1 _ _ _ _ _ _ _ _ _ _ _)
      | (with_reducible exact ih2 _ _ _ _ _ _ _ _ _ _ _ _ _ _ _ _)
      | (with_reducible exact ih3 _ _ _ _ _ _ _ _ _ _ _ _ _ _ _ _)
      | (with_reducible exact ih4 _ _ _ _ _ _ _ _ _ _ _ _ _ _ _ _ _)
      | (with_reducible exact scriptoriumlaw06_awake.mono _)
      | (with_reducible exact stamp_Less.mono _ _ _ _ _)
      | (with_reducible exact LeO.refl _)
      | (with_reducible exact LeO.none _)
      | (with_reducible refine LeO.ite ?_ ?_)
      | (with_reducible refine LeO.bind ?_ (fun _ => ?_))
      | exact ih0 _ _ _ _ _ _ _ _ _ _
      | exact ih1 _ _ _ _ _ _ _ _ _ _ _
      | exact ih2 _ _ _ _ _ _ _ _ _ _ _ _ _ _ _ _
      | exact ih3 _ _ _ _ _ _ _ _ _ _ _ _ _ _ _ _
      | exact ih4 _ _ _ _ _ _ _ _ _ _ _ _ _ _ _ _ _
      | exact scriptoriumlaw06_awake.mono _
      | exact stamp_Less.mono _ _ _ _ _
      | exact LeO.none _
      | refine LeO.ite ?_ ?_
      | refine LeO.bind ?_ (fun _ => ?_)
    · intro y0 y1 y2 y3 y4 y5 y6 y7 y8 y9 y10 y11 y12 y13 y14 y15 y16
      unfold scriptoriumlaw06_ClockAnew.j4
      repeat' first
      | (with_reducible exact ih0 _ _ _ _ _ _ _ _ _ _)
      | (with_reducible exact ih1 _ _ _ _ _ _ _ _ _ _ _)
      | (with_reducible exact ih2 _ _ _ _ _ _ _ _ _ _ _ _ _ _ _ _)
      | (with_reducible exact ih3 _ _ _ _ _ _ _ _ _ _ _ _ _ _ _ _)
      | (with_reducible exact ih4 _ _ _ _ _ _ _ _ _ _ _ _ _ _ _ _ _)
      | (with_reducible exact scriptoriumlaw06_awake.mono _)
      | (with_reducible exact stamp_Less.mono _ _ _ _ _)
      | (with_reducible exact LeO.refl _)
      | (with_reducible exact LeO.none _)
      | (with_reducible refine LeO.ite ?_ ?_)
      | (with_reducible refine LeO.bind ?_ (fun _ => ?_))
      | exact ih0 _ _ _ _ _ _ _ _ _ _
      | exact ih1 _ _ _ _ _ _ _ _ _ _ _
      | exact ih2 _ _ _ _ _ _ _ _ _ _ _ _ _ _ _ _
      | exact ih3 _ _ _ _ _ _ _ _ _ _ _ _ _ _ _ _
      | exact ih4 _ _ _ _ _ _ _ _ _ _ _ _ _ _ _ _ _
      | exact scriptoriumlaw06_awake.mono _
      | exact stamp_Less.mono _ _ _ _ _
      | exact LeO.none _
      | refine LeO.ite ?_ ?_
      | refine LeO.bind ?_ (fun _ => ?_)
theorem scriptoriumlaw06_ClockAnew.mono : ∀ a0 a1 k, LeO (scriptoriumlaw06_ClockAnew.f k a0 a1) (scriptoriumlaw06_ClockAnew.f (k + 1) a0 a1) := by
  intro a0 a1 k
  obtain ⟨ih0, ih1, ih2, ih3, ih4⟩ := scriptoriumlaw06_ClockAnew.mono_l k
  unfold scriptoriumlaw06_ClockAnew.f
  repeat' first
      | (with_reducible exact ih0 _ _ _ _ _ _ _ _ _ _)
      | (with_reducible exact ih1 _ _ _ _ _ _ _ _ _ _ _)
      | (with_reducible exact ih2 _ _ _ _ _ _ _ _ _ _ _ _ _ _ _ _)
      | (with_reducible exact ih3 _ _ _ _ _ _ _ _ _ _ _ _ _ _ _ _)
      | (with_reducible exact ih4 _ _ _ _ _ _ _ _ _ _ _ _ _ _ _ _ _)
      | (with_reducible exact scriptoriumlaw06_awake.mono _)
      | (with_reducible exact stamp_Less.mono _ _ _ _ _)
      | (with_reducible exact LeO.refl _)
      | (with_reducible exact LeO.none _)
      | (with_reducible refine LeO.ite ?_ ?_)
      | (with_reducible refine LeO.bind ?_ (fun _ => ?_))
      | exact ih0 _ _ _ _ _ _ _ _ _ _
      | exact ih1 _ _ _ _ _ _ _ _ _ _ _
      | exact ih2 _ _ _ _ _ _ _ _ _ _ _ _ _ _ _ _
      | exact ih3 _ _ _ _ _ _ _ _ _ _ _ _ _ _ _ _
      | exact ih4 _ _ _ _ _ _ _ _ _ _ _ _ _ _ _ _ _
      | exact scriptoriumlaw06_awake.mono _
      | exact stamp_Less.mono _ _ _ _ _
      | exact LeO.none _
      | refine LeO.ite ?_ ?_
      | refine LeO.bind ?_ (fun _ => ?_)
def scriptoriumlaw06_ClockAnew.T15 : Bool × List (List Nat × List Nat) := (true, [([], []), ([0], [0]), ([1], [1]), ([2, 1, 1], [1, 2]), ([1], [1]), ([3, 4, 3, 1], [1, 3, 4]), ([5, 1], [1, 5]), ([1, 6], [1, 6])])
def scriptoriumlaw06_ClockAnew.B15 : List Nat := [0, 1, 3, 7, 3, 31, 63, 127]
theorem scriptoriumlaw06_ClockAnew.tab15 : rtab .any (opsOf Try.f8 15) = scriptoriumlaw06_ClockAnew.T15 := by kernel_rfl
theorem scriptoriumlaw06_ClockAnew.bits15 : waitsOk scriptoriumlaw06_ClockAnew.T15.2 scriptoriumlaw06_ClockAnew.B15 = true := by kernel_rfl
set_option maxHeartbeats 8000000 in
set_option maxRecDepth 100000 in
theorem scriptoriumlaw06_ClockAnew.calls (k : Nat) (A0 : Option Addr) (c0 : Nat) (l0 : List (S45)) (A1 : Option Addr) (c1 : Nat) (l1 : List (S45)) (r : Bool) (w : World) (hr0 : Kd.C k45 w A0 l0.length l0) (hc0 : l0.length ≤ c0) (hr1 : Kd.C k45 w A1 l1.length l1) (hc1 : l1.length ≤ c1) (h : scriptoriumlaw06_ClockAnew.f k l0 l1 = some r) (hrt : r = true) :
    Calls Try.prog 8 #[.slice A0 l0.length c0, .slice A1 l1.length c1] w fun e w' => e = .returned (.bool r) ∧ Below w.heap.size w w' := by
  have hu45 := Try.underlying45
  have hu33 := Try.underlying33
  have HR0 := Aside0.mk hr0
  have HC0 := Aside0.mk hc0
  clear hr0 hc0
  have HR1 := Aside0.mk hr1
  have HC1 := Aside0.mk hc1
  clear hr1 hc1
  have HB := Aside0.mk (Below.refl w.heap.size w)
  have H : ((clock_New.f 30 0).bind fun bt319 => (if bt319.2.2.2.2.2.2.2 = 0 then (scriptoriumlaw06_ClockAnew.l0 k l0 l1 0 bt319.1 bt319.2.1 bt319.2.2.1 bt319.2.2.2.1 bt319.2.2.2.2.1 bt319.2.2.2.2.2.1 bt319.2.2.2.2.2.2.1) else (some false))) = some r := h
  clear h
  replace H := Option.bind_eq_some_iff.mp H
  obtain ⟨⟨t319, t320, t321, t322, t323, t324, t325, t327⟩, A30, H⟩ := H
  replace H : (if t327 = 0 then (scriptoriumlaw06_ClockAnew.l0 k l0 l1 0 t319 t320 t321 t322 t323 t324 t325) else (some false)) = some r := H
  have A3 := Aside0.mk A30
  clear A30
  by_cases c4 : t327 = 0
  · rw [if_pos c4] at H
    have c4b0 : (t327 == 0) = true := beq_iff_eq.mpr c4
    have c4b1 : (t327 != 0) = false := bne_eq_false_iff_eq.mpr c4
    clear c4
    have H' := Aside0.mk H
    clear H
    go_enter Try.func8, Try.ntmps8
    go_wp2_with (first | ((with_reducible refine gate_callee (f := 9) rfl ?_); refine goesL_ (some 14) rfl rfl Try.func9 (by kernel_rfl) rfl #[.int .i64 30, .int .i64 0] rfl (by (try simp only [List.map_toArray, List.map_cons, List.map_nil]); first | done | rfl | (simp only [List.length_drop, List.length_take]; rfl)) ?_; (with_reducible refine (clock_New.calls 30 0 t319 t320 t321 t322 t323 t324 t325 t327 w _ ?side1 A3.out).mono ?_); (case side1 => repeat (first | (with_reducible first | exact HB.out | apply below_alloc | apply pw_below_drewN | apply below_drew1) | exact HB.out)); rintro e w5 ⟨g326, rfl, hi, hb, hb2, hgn⟩; refine ⟨_, rfl, ?_⟩; have n0_ := Aside0.mk (hb); have n1_ := Aside0.mk (hi); clear HB; have HB := n0_; have HI326 := n1_; clear n0_ n1_; (try clear hb); (try clear hb2); (try clear hk); (try clear hi); (try clear hgn)))
    go_loopg [7] k (fun kq v7 w' => ∃ (x7_1 : Int) (x327000_1 : Int) (x327001_1 : Int) (x327002_1 : Int) (x327003_1 : Int) (x327004_1 : Int) (x327005_1 : Int) (x327006_1 : Bool), v7 = .int .i64 x7_1 ∧ Aside0 (scriptoriumlaw06_ClockAnew.l0 kq l0 l1 x7_1 x327000_1 x327001_1 x327002_1 x327003_1 x327004_1 x327005_1 x327006_1 = some r) ∧ Aside0 (kq ≤ k) ∧ Aside0 (IsS51 w w' g326 x327000_1 x327001_1 x327002_1 x327003_1 x327004_1 x327005_1 x327006_1) ∧ Aside0 (Below w.heap.size w w'))
    case atStart => exact ⟨(0), (t319), (t320), (t321), (t322), (t323), (t324), (t325), (by first | rfl | (simp; done) | (simp [*]; done)), H', ⟨Nat.le_refl _⟩, ⟨by repeat (first | (with_reducible first | exact HI326.out | apply IsS51.alloc | apply IsS51.drewN | apply IsS51.drew | apply IsS51.set_0 | apply IsS51.set_1 | apply IsS51.set_2 | apply IsS51.set_3 | apply IsS51.set_4 | apply IsS51.set_5 | apply IsS51.set_6) | exact HI326.out)⟩, ⟨by repeat (first | (with_reducible first | exact HB.out | apply below_alloc | apply pw_below_drewN | apply below_drew1 | refine below_set ?_ (IsS51.ge HI326.out)) | exact HB.out)⟩⟩
    case round =>
      clear H'
      try clear c1
      try clear p2
      try clear c4
      try clear c4b0
      try clear c4b1
      obtain ⟨x7_1, x327000_1, x327001_1, x327002_1, x327003_1, x327004_1, x327005_1, x327006_1, rfl, HA, HK1, HI326, HB⟩ := hrel
      cases gk with
      | zero => exact absurd HA.out (by simp [scriptoriumlaw06_ClockAnew.l0])
      | succ k1 =>
        have H := HA.out
        clear HA
        simp only [scriptoriumlaw06_ClockAnew.l0] at H
        have HC6 := Aside0.mk H
        clear H
        go_upto_region 5 with (fail)
        go_cut [26] (fun v26 wc => ∃ (kq : Nat) (x26_5 : Bool), v26 = .bool x26_5 ∧ Aside0 (scriptoriumlaw06_ClockAnew.j1 kq l0 l1 x7_1 x26_5 x327000_1 x327001_1 x327002_1 x327003_1 x327004_1 x327005_1 x327006_1 = some r) ∧ Aside0 (kq ≤ k1) ∧ Aside0 (IsS51 w wc g326 x327000_1 x327001_1 x327002_1 x327003_1 x327004_1 x327005_1 x327006_1) ∧ Aside0 (Below w.heap.size w wc))
        case first =>
          have H := HC6.out
          clear HC6
          by_cases c7 : x7_1 < (l0.length : Int)
          · rw [if_pos c7] at H
            have c7b0 : decide (x7_1 < (l0.length : Int)) = true := decide_eq_true c7
            clear c7
            (first | rw [c7b0] | (simp only [i64_w, i32_w]; rw [c7b0]) | skip)
            have H' := Aside0.mk H
            clear H
            go_wp2
            go_meet
            case rel => exact ⟨_, (decide (x7_1 < 100)), (by first | rfl | (simp; done) | (simp [*]; done)), H', ⟨by have := HK1.out; first | omega | exact Nat.le_refl _⟩, ⟨by repeat (first | (with_reducible first | exact HI326.out | apply IsS51.alloc | apply IsS51.drewN | apply IsS51.drew | apply IsS51.set_0 | apply IsS51.set_1 | apply IsS51.set_2 | apply IsS51.set_3 | apply IsS51.set_4 | apply IsS51.set_5 | apply IsS51.set_6) | exact HI326.out)⟩, ⟨by repeat (first | (with_reducible first | exact HB.out | apply below_alloc | apply pw_below_drewN | apply below_drew1 | refine below_set ?_ (IsS51.ge HI326.out)) | exact HB.out)⟩⟩
          · rw [if_neg c7] at H
            have c7b0 : decide (x7_1 < (l0.length : Int)) = false := decide_eq_false c7
            clear c7
            (first | rw [c7b0] | (simp only [i64_w, i32_w]; rw [c7b0]) | skip)
            have H' := Aside0.mk H
            clear H
            go_wp2
            go_meet
            case rel => exact ⟨_, (false), (by first | rfl | (simp; done) | (simp [*]; done)), H', ⟨by have := HK1.out; first | omega | exact Nat.le_refl _⟩, ⟨by repeat (first | (with_reducible first | exact HI326.out | apply IsS51.alloc | apply IsS51.drewN | apply IsS51.drew | apply IsS51.set_0 | apply IsS51.set_1 | apply IsS51.set_2 | apply IsS51.set_3 | apply IsS51.set_4 | apply IsS51.set_5 | apply IsS51.set_6) | exact HI326.out)⟩, ⟨by repeat (first | (with_reducible first | exact HB.out | apply below_alloc | apply pw_below_drewN | apply below_drew1 | refine below_set ?_ (IsS51.ge HI326.out)) | exact HB.out)⟩⟩
        case rest =>
          clear HC6
          try clear c1
          try clear p2
          try clear c4
          try clear c4b0
          try clear c4b1
          try clear c7
          try clear c7b0
          try clear p2
          obtain ⟨kq, x26_5, rfl, HA, HJ5, HI326, HB⟩ := hcut
          cases kq with
          | zero => exact absurd HA.out (by simp [scriptoriumlaw06_ClockAnew.j1])
          | succ kj5 =>
            have H := HA.out
            clear HA
            simp only [scriptoriumlaw06_ClockAnew.j1] at H
            by_cases c8 : x26_5 = true
            · subst c8
              have H1 : (if 0 ≤ x7_1 then (if x7_1 < (l0.length : Int) then ((scriptoriumlaw06_bring.f ((rd_T45 l0 x7_1).f0) ((rd_T45 l0 x7_1).f1) ((rd_T45 l0 x7_1).f2.f0) ((rd_T45 l0 x7_1).f2.f1)).bind fun bt329 => ((scriptoriumlaw06_does.f x327000_1 x327001_1 x327002_1 x327003_1 x327004_1 x327005_1 x327006_1 bt329.1 bt329.2.1 bt329.2.2.1 bt329.2.2.2).bind fun bt333 => (scriptoriumlaw06_ClockAnew.l0 kj5 l0 l1 (wrap64 (x7_1 + 1)) bt333.2.2.2.1 bt333.2.2.2.2.1 bt333.2.2.2.2.2.1 bt333.2.2.2.2.2.2.1 bt333.2.2.2.2.2.2.2.1 bt333.2.2.2.2.2.2.2.2.1 bt333.2.2.2.2.2.2.2.2.2))) else (none)) else (none)) = some r := by rw [if_pos rfl] at H; exact H
              clear H
              have H := H1
              clear H1
              by_cases c9 : 0 ≤ x7_1
              · rw [if_pos c9] at H
                have c9b0 : decide (0 ≤ x7_1) = true := decide_eq_true c9
                clear c9
                by_cases c10 : x7_1 < (l0.length : Int)
                · rw [if_pos c10] at H
                  have c10b0 : decide (x7_1 < (l0.length : Int)) = true := decide_eq_true c10
                  clear c10
                  replace H := Option.bind_eq_some_iff.mp H
                  obtain ⟨⟨t329, t330, t331, t332⟩, A110, H⟩ := H
                  replace H : ((scriptoriumlaw06_does.f x327000_1 x327001_1 x327002_1 x327003_1 x327004_1 x327005_1 x327006_1 t329 t330 t331 t332).bind fun bt333 => (scriptoriumlaw06_ClockAnew.l0 kj5 l0 l1 (wrap64 (x7_1 + 1)) bt333.2.2.2.1 bt333.2.2.2.2.1 bt333.2.2.2.2.2.1 bt333.2.2.2.2.2.2.1 bt333.2.2.2.2.2.2.2.1 bt333.2.2.2.2.2.2.2.2.1 bt333.2.2.2.2.2.2.2.2.2)) = some r := H
                  have A11 := Aside0.mk A110
                  clear A110
                  replace H := Option.bind_eq_some_iff.mp H
                  obtain ⟨⟨t333, t334, t335, t336, t337, t338, t339, t340, t341, t342⟩, A120, H⟩ := H
                  replace H : (scriptoriumlaw06_ClockAnew.l0 kj5 l0 l1 (wrap64 (x7_1 + 1)) t336 t337 t338 t339 t340 t341 t342) = some r := H
                  have A12 := Aside0.mk A120
                  clear A120
                  have H' := Aside0.mk H
                  clear H
                  have p328 : 0 ≤ (x7_1 : Int) := of_decide_eq_true (by first | (with_reducible assumption) | assumption)
                  have q328 : x7_1 < (l0.length : Int) := of_decide_eq_true (by first | (with_reducible assumption) | assumption)
                  obtain ⟨ad328, e328, hx328_0, hx328_1, hx328_2, hx328_3⟩ := at_T45 HR0.out x7_1 p328 q328
                  cases e328
                  replace hx328_0 := (HB.out.cell (World.block_lt_of_cell? w _ hx328_0)).trans hx328_0
                  replace hx328_1 := (HB.out.cell (World.block_lt_of_cell? w _ hx328_1)).trans hx328_1
                  replace hx328_2 := (HB.out.cell (World.block_lt_of_cell? w _ hx328_2)).trans hx328_2
                  replace hx328_3 := (HB.out.cell (World.block_lt_of_cell? w _ hx328_3)).trans hx328_3
                  replace p328 := eq_true p328
                  replace q328 := eq_true q328
                  go_wp2_with (first | ((with_reducible refine gate_callee (f := 23) rfl ?_); refine goesL_ (some 34) rfl rfl Try.func23 (by kernel_rfl) rfl #[.agg #[.int .i64 ((rd_T45 l0 x7_1).f0), .int .i64 ((rd_T45 l0 x7_1).f1), .int .i64 ((rd_T45 l0 x7_1).f2.f0), .int .i64 ((rd_T45 l0 x7_1).f2.f1)]] rfl (by (try simp only [List.map_toArray, List.map_cons, List.map_nil]); first | done | rfl | (simp only [List.length_drop, List.length_take]; rfl)) ?_; (with_reducible refine (scriptoriumlaw06_bring.calls ((rd_T45 l0 x7_1).f0) ((rd_T45 l0 x7_1).f1) ((rd_T45 l0 x7_1).f2.f0) ((rd_T45 l0 x7_1).f2.f1) t329 t330 t331 t332 _ A11.out).mono ?_); rintro e w13 ⟨rfl, hb⟩; refine ⟨_, rfl, ?_⟩; have n0_ := Aside0.mk (IsS51.below (by repeat (first | (with_reducible first | exact HI326.out | apply IsS51.alloc | apply IsS51.drewN | apply IsS51.drew | apply IsS51.set_0 | apply IsS51.set_1 | apply IsS51.set_2 | apply IsS51.set_3 | apply IsS51.set_4 | apply IsS51.set_5 | apply IsS51.set_6) | exact HI326.out)) hb); have n1_ := Aside0.mk (below_step (by repeat (first | (with_reducible first | exact HB.out | apply below_alloc | apply pw_below_drewN | apply below_drew1 | refine below_set ?_ (IsS51.ge HI326.out)) | exact HB.out)) hb); clear HI326; clear HB; have HI326 := n0_; have HB := n1_; clear n0_ n1_; (try clear hb); (try clear hb2); (try clear hk); (try clear hi); (try clear hgn)) | ((with_reducible refine gate_callee (f := 24) rfl ?_); refine goesL_ (some 35) rfl rfl Try.func24 (by kernel_rfl) rfl #[.pointer (some ⟨g326, 0, none⟩), .agg #[.int .i64 t329, .int .i64 t330, .int .i64 t331, .int .i64 t332]] rfl (by (try simp only [List.map_toArray, List.map_cons, List.map_nil]); first | done | rfl | (simp only [List.length_drop, List.length_take]; rfl)) ?_; (with_reducible refine (scriptoriumlaw06_does.calls g326 x327000_1 x327001_1 x327002_1 x327003_1 x327004_1 x327005_1 x327006_1 t329 t330 t331 t332 t333 t334 t335 t336 t337 t338 t339 t340 t341 t342 w _ ?side1 ?side2 A12.out).mono ?_); (case side1 => repeat (first | (with_reducible first | exact HI326.out | apply IsS51.alloc | apply IsS51.drewN | apply IsS51.drew | apply IsS51.set_0 | apply IsS51.set_1 | apply IsS51.set_2 | apply IsS51.set_3 | apply IsS51.set_4 | apply IsS51.set_5 | apply IsS51.set_6) | exact HI326.out)); (case side2 => repeat (first | (with_reducible first | exact HB.out | apply below_alloc | apply pw_below_drewN | apply below_drew1 | refine below_set ?_ (IsS51.ge HI326.out)) | exact HB.out)); rintro e w14 ⟨rfl, hi, hb, hk⟩; refine ⟨_, rfl, ?_⟩; have n0_ := Aside0.mk (hb); have n1_ := Aside0.mk (hi); clear HB; clear HI326; have HB := n0_; have HI326 := n1_; clear n0_ n1_; (try clear hb); (try clear hb2); (try clear hk); (try clear hi); (try clear hgn)))
                  go_roundg kj5
                  case measure => have := HK1.out; have := HJ5.out; omega
                  case rel => exact ⟨(wrap64 (x7_1 + 1)), (t336), (t337), (t338), (t339), (t340), (t341), (t342), (by first | rfl | (simp; done) | (simp [*]; done)), H', ⟨by have := HK1.out; have := HJ5.out; omega⟩, ⟨by repeat (first | (with_reducible first | exact HI326.out | apply IsS51.alloc | apply IsS51.drewN | apply IsS51.drew | apply IsS51.set_0 | apply IsS51.set_1 | apply IsS51.set_2 | apply IsS51.set_3 | apply IsS51.set_4 | apply IsS51.set_5 | apply IsS51.set_6) | exact HI326.out)⟩, ⟨by repeat (first | (with_reducible first | exact HB.out | apply below_alloc | apply pw_below_drewN | apply below_drew1 | refine below_set ?_ (IsS51.ge HI326.out)) | exact HB.out)⟩⟩
                · rw [if_neg c10] at H
                  exact absurd H (by simp)
              · rw [if_neg c9] at H
                exact absurd H (by simp)
            · replace c8 := Bool.eq_false_iff.mpr c8
              subst c8
              have H1 : ((clock_Clock_Bound.f x327000_1 x327001_1 x327002_1 x327003_1 x327004_1 x327005_1 x327006_1).bind fun bt343 => ((clock_New.f 30 bt343.1).bind fun bt351 => (if bt351.2.2.2.2.2.2.2 = 0 then ((clock_Clock_Last.f bt351.1 bt351.2.1 bt351.2.2.1 bt351.2.2.2.1 bt351.2.2.2.2.1 bt351.2.2.2.2.2.1 bt351.2.2.2.2.2.2.1).bind fun bt360 => ((clock_Clock_Last.f bt343.2.1 bt343.2.2.1 bt343.2.2.2.1 bt343.2.2.2.2.1 bt343.2.2.2.2.2.1 bt343.2.2.2.2.2.2.1 bt343.2.2.2.2.2.2.2).bind fun bt369 => ((stamp_Less.f kj5 bt360.1 bt360.2.1 bt369.1 bt369.2.1).bind fun t378 => (scriptoriumlaw06_ClockAnew.j2 kj5 l1 t378 bt369.2.2.1 bt369.2.2.2.1 bt369.2.2.2.2.1 bt369.2.2.2.2.2.1 bt369.2.2.2.2.2.2.1 bt369.2.2.2.2.2.2.2.1 bt369.2.2.2.2.2.2.2.2 bt360.2.2.1 bt360.2.2.2.1 bt360.2.2.2.2.1 bt360.2.2.2.2.2.1 bt360.2.2.2.2.2.2.1 bt360.2.2.2.2.2.2.2.1 bt360.2.2.2.2.2.2.2.2)))) else (scriptoriumlaw06_ClockAnew.j2 kj5 l1 true bt343.2.1 bt343.2.2.1 bt343.2.2.2.1 bt343.2.2.2.2.1 bt343.2.2.2.2.2.1 bt343.2.2.2.2.2.2.1 bt343.2.2.2.2.2.2.2 bt351.1 bt351.2.1 bt351.2.2.1 bt351.2.2.2.1 bt351.2.2.2.2.1 bt351.2.2.2.2.2.1 bt351.2.2.2.2.2.2.1)))) = some r := by rw [if_neg (show ¬ (false = true) by decide)] at H; exact H
              clear H
              have H := H1
              clear H1
              replace H := Option.bind_eq_some_iff.mp H
              obtain ⟨⟨t343, t344, t345, t346, t347, t348, t349, t350⟩, A150, H⟩ := H
              replace H : ((clock_New.f 30 t343).bind fun bt351 => (if bt351.2.2.2.2.2.2.2 = 0 then ((clock_Clock_Last.f bt351.1 bt351.2.1 bt351.2.2.1 bt351.2.2.2.1 bt351.2.2.2.2.1 bt351.2.2.2.2.2.1 bt351.2.2.2.2.2.2.1).bind fun bt360 => ((clock_Clock_Last.f t344 t345 t346 t347 t348 t349 t350).bind fun bt369 => ((stamp_Less.f kj5 bt360.1 bt360.2.1 bt369.1 bt369.2.1).bind fun t378 => (scriptoriumlaw06_ClockAnew.j2 kj5 l1 t378 bt369.2.2.1 bt369.2.2.2.1 bt369.2.2.2.2.1 bt369.2.2.2.2.2.1 bt369.2.2.2.2.2.2.1 bt369.2.2.2.2.2.2.2.1 bt369.2.2.2.2.2.2.2.2 bt360.2.2.1 bt360.2.2.2.1 bt360.2.2.2.2.1 bt360.2.2.2.2.2.1 bt360.2.2.2.2.2.2.1 bt360.2.2.2.2.2.2.2.1 bt360.2.2.2.2.2.2.2.2)))) else (scriptoriumlaw06_ClockAnew.j2 kj5 l1 true t344 t345 t346 t347 t348 t349 t350 bt351.1 bt351.2.1 bt351.2.2.1 bt351.2.2.2.1 bt351.2.2.2.2.1 bt351.2.2.2.2.2.1 bt351.2.2.2.2.2.2.1))) = some r := H
              have A15 := Aside0.mk A150
              clear A150
              replace H := Option.bind_eq_some_iff.mp H
              obtain ⟨⟨t351, t352, t353, t354, t355, t356, t357, t359⟩, A160, H⟩ := H
              replace H : (if t359 = 0 then ((clock_Clock_Last.f t351 t352 t353 t354 t355 t356 t357).bind fun bt360 => ((clock_Clock_Last.f t344 t345 t346 t347 t348 t349 t350).bind fun bt369 => ((stamp_Less.f kj5 bt360.1 bt360.2.1 bt369.1 bt369.2.1).bind fun t378 => (scriptoriumlaw06_ClockAnew.j2 kj5 l1 t378 bt369.2.2.1 bt369.2.2.2.1 bt369.2.2.2.2.1 bt369.2.2.2.2.2.1 bt369.2.2.2.2.2.2.1 bt369.2.2.2.2.2.2.2.1 bt369.2.2.2.2.2.2.2.2 bt360.2.2.1 bt360.2.2.2.1 bt360.2.2.2.2.1 bt360.2.2.2.2.2.1 bt360.2.2.2.2.2.2.1 bt360.2.2.2.2.2.2.2.1 bt360.2.2.2.2.2.2.2.2)))) else (scriptoriumlaw06_ClockAnew.j2 kj5 l1 true t344 t345 t346 t347 t348 t349 t350 t351 t352 t353 t354 t355 t356 t357)) = some r := H
              have A16 := Aside0.mk A160
              clear A160
              have HC17 := Aside0.mk H
              clear H
              go_upto_region 9 with (first | ((with_reducible refine gate_callee (f := 22) rfl ?_); refine goesL_ (some 38) rfl rfl Try.func22 (by kernel_rfl) rfl #[.pointer (some ⟨g326, 0, none⟩)] rfl (by (try simp only [List.map_toArray, List.map_cons, List.map_nil]); first | done | rfl | (simp only [List.length_drop, List.length_take]; rfl)) ?_; (with_reducible refine (clock_Clock_Bound.calls g326 x327000_1 x327001_1 x327002_1 x327003_1 x327004_1 x327005_1 x327006_1 t343 t344 t345 t346 t347 t348 t349 t350 w _ ?side1 ?side2 A15.out).mono ?_); (case side1 => repeat (first | (with_reducible first | exact HI326.out | apply IsS51.alloc | apply IsS51.drewN | apply IsS51.drew | apply IsS51.set_0 | apply IsS51.set_1 | apply IsS51.set_2 | apply IsS51.set_3 | apply IsS51.set_4 | apply IsS51.set_5 | apply IsS51.set_6) | exact HI326.out)); (case side2 => repeat (first | (with_reducible first | exact HB.out | apply below_alloc | apply pw_below_drewN | apply below_drew1 | refine below_set ?_ (IsS51.ge HI326.out)) | exact HB.out)); rintro e w18 ⟨rfl, hi, hb, hk⟩; refine ⟨_, rfl, ?_⟩; have n0_ := Aside0.mk (hb); have n1_ := Aside0.mk (hi); clear HB; clear HI326; have HB := n0_; have HI326 := n1_; clear n0_ n1_; (try clear hb); (try clear hb2); (try clear hk); (try clear hi); (try clear hgn)) | ((with_reducible refine gate_callee (f := 9) rfl ?_); refine goesL_ (some 39) rfl rfl Try.func9 (by kernel_rfl) rfl #[.int .i64 30, .int .i64 t343] rfl (by (try simp only [List.map_toArray, List.map_cons, List.map_nil]); first | done | rfl | (simp only [List.length_drop, List.length_take]; rfl)) ?_; (with_reducible refine (clock_New.calls 30 t343 t351 t352 t353 t354 t355 t356 t357 t359 w _ ?side1 A16.out).mono ?_); (case side1 => repeat (first | (with_reducible first | exact HB.out | apply below_alloc | apply pw_below_drewN | apply below_drew1 | refine below_set ?_ (IsS51.ge HI326.out)) | exact HB.out)); rintro e w19 ⟨g358, rfl, hi, hb, hb2, hgn⟩; refine ⟨_, rfl, ?_⟩; have n0_ := Aside0.mk (IsS51.below (by repeat (first | (with_reducible first | exact HI326.out | apply IsS51.alloc | apply IsS51.drewN | apply IsS51.drew | apply IsS51.set_0 | apply IsS51.set_1 | apply IsS51.set_2 | apply IsS51.set_3 | apply IsS51.set_4 | apply IsS51.set_5 | apply IsS51.set_6) | exact HI326.out)) hb2); have n1_ := Aside0.mk ((Nat.ne_of_lt (Nat.lt_of_lt_of_le (IsS51.lt (show IsS51 w _ g326 t344 t345 t346 t347 t348 t349 t350 from by repeat (first | (with_reducible first | exact HI326.out | apply IsS51.alloc | apply IsS51.drewN | apply IsS51.drew | apply IsS51.set_0 | apply IsS51.set_1 | apply IsS51.set_2 | apply IsS51.set_3 | apply IsS51.set_4 | apply IsS51.set_5 | apply IsS51.set_6) | exact HI326.out))) hgn) : g326 ≠ g358)); have n2_ := Aside0.mk ((Nat.ne_of_gt (Nat.lt_of_lt_of_le (IsS51.lt (show IsS51 w _ g326 t344 t345 t346 t347 t348 t349 t350 from by repeat (first | (with_reducible first | exact HI326.out | apply IsS51.alloc | apply IsS51.drewN | apply IsS51.drew | apply IsS51.set_0 | apply IsS51.set_1 | apply IsS51.set_2 | apply IsS51.set_3 | apply IsS51.set_4 | apply IsS51.set_5 | apply IsS51.set_6) | exact HI326.out))) hgn) : g358 ≠ g326)); have n3_ := Aside0.mk (hb); have n4_ := Aside0.mk (hi); clear HI326; clear HB; have HI326 := n0_; have NB326_358 := n1_; have NB358_326 := n2_; have HB := n3_; have HI358 := n4_; clear n0_ n1_ n2_ n3_ n4_; (try clear hb); (try clear hb2); (try clear hk); (try clear hi); (try clear hgn)))
              (try simp only [Act.put, List.setIfInBounds_toArray, List.set_cons_zero, List.set_cons_succ])
              go_cut [50] (fun v50 wc => ∃ (kq : Nat) (x50_16 : Bool) (x327000_16 : Int) (x327001_16 : Int) (x327002_16 : Int) (x327003_16 : Int) (x327004_16 : Int) (x327005_16 : Int) (x327006_16 : Bool) (x359000_16 : Int) (x359001_16 : Int) (x359002_16 : Int) (x359003_16 : Int) (x359004_16 : Int) (x359005_16 : Int) (x359006_16 : Bool), v50 = .bool x50_16 ∧ Aside0 (scriptoriumlaw06_ClockAnew.j2 kq l1 x50_16 x327000_16 x327001_16 x327002_16 x327003_16 x327004_16 x327005_16 x327006_16 x359000_16 x359001_16 x359002_16 x359003_16 x359004_16 x359005_16 x359006_16 = some r) ∧ Aside0 (kq ≤ kj5) ∧ Aside0 (IsS51 w wc g326 x327000_16 x327001_16 x327002_16 x327003_16 x327004_16 x327005_16 x327006_16) ∧ Aside0 (IsS51 w wc g358 x359000_16 x359001_16 x359002_16 x359003_16 x359004_16 x359005_16 x359006_16) ∧ Aside0 (Below w.heap.size w wc))
              case first =>
                have H := HC17.out
                clear HC17
                by_cases c20 : t359 = 0
                · rw [if_pos c20] at H
                  have c20b0 : (t359 == 0) = true := beq_iff_eq.mpr c20
                  have c20b1 : (t359 != 0) = false := bne_eq_false_iff_eq.mpr c20
                  clear c20
                  (first | rw [c20b0] | (simp only [i64_w, i32_w]; rw [c20b0]) | skip)
                  replace H := Option.bind_eq_some_iff.mp H
                  obtain ⟨⟨t360, t361, t362, t363, t364, t365, t366, t367, t368⟩, A210, H⟩ := H
                  replace H : ((clock_Clock_Last.f t344 t345 t346 t347 t348 t349 t350).bind fun bt369 => ((stamp_Less.f kj5 t360 t361 bt369.1 bt369.2.1).bind fun t378 => (scriptoriumlaw06_ClockAnew.j2 kj5 l1 t378 bt369.2.2.1 bt369.2.2.2.1 bt369.2.2.2.2.1 bt369.2.2.2.2.2.1 bt369.2.2.2.2.2.2.1 bt369.2.2.2.2.2.2.2.1 bt369.2.2.2.2.2.2.2.2 t362 t363 t364 t365 t366 t367 t368))) = some r := H
                  have A21 := Aside0.mk A210
                  clear A210
                  replace H := Option.bind_eq_some_iff.mp H
                  obtain ⟨⟨t369, t370, t371, t372, t373, t374, t375, t376, t377⟩, A220, H⟩ := H
                  replace H : ((stamp_Less.f kj5 t360 t361 t369 t370).bind fun t378 => (scriptoriumlaw06_ClockAnew.j2 kj5 l1 t378 t371 t372 t373 t374 t375 t376 t377 t362 t363 t364 t365 t366 t367 t368)) = some r := H
                  have A22 := Aside0.mk A220
                  clear A220
                  replace H := Option.bind_eq_some_iff.mp H
                  obtain ⟨t378, A230, H⟩ := H
                  replace H : (scriptoriumlaw06_ClockAnew.j2 kj5 l1 t378 t371 t372 t373 t374 t375 t376 t377 t362 t363 t364 t365 t366 t367 t368) = some r := H
                  have A23 := Aside0.mk A230
                  clear A230
                  have H' := Aside0.mk H
                  clear H
                  go_wp2_with (first | (go_at_call 21; (with_reducible refine (clock_Clock_Last.calls g358 t351 t352 t353 t354 t355 t356 t357 t360 t361 t362 t363 t364 t365 t366 t367 t368 w _ ?side1 ?side2 A21.out).mono ?_); (case side1 => repeat (first | (with_reducible first | exact HI358.out | apply IsS51.alloc | apply IsS51.drewN | apply IsS51.drew | apply IsS51.set_0 | apply IsS51.set_1 | apply IsS51.set_2 | apply IsS51.set_3 | apply IsS51.set_4 | apply IsS51.set_5 | apply IsS51.set_6) | exact HI358.out)); (case side2 => repeat (first | (with_reducible first | exact HB.out | apply below_alloc | apply pw_below_drewN | apply below_drew1 | refine below_set ?_ (IsS51.ge HI326.out) | refine below_set ?_ (IsS51.ge HI358.out)) | exact HB.out)); rintro e w24 ⟨rfl, hi, hb, hk⟩; have n0_ := Aside0.mk (IsS51.keepB (by repeat (first | (with_reducible first | exact HI326.out | apply IsS51.alloc | apply IsS51.drewN | apply IsS51.drew | apply IsS51.set_0 | apply IsS51.set_1 | apply IsS51.set_2 | apply IsS51.set_3 | apply IsS51.set_4 | apply IsS51.set_5 | apply IsS51.set_6) | exact HI326.out)) hk NB326_358.out); have n1_ := Aside0.mk (hb); have n2_ := Aside0.mk (hi); clear HI326; clear HB; clear HI358; have HI326 := n0_; have HB := n1_; have HI358 := n2_; clear n0_ n1_ n2_; (try clear hb); (try clear hb2); (try clear hk); (try clear hi); (try clear hgn)) | (go_at_call 21; (with_reducible refine (clock_Clock_Last.calls g326 t344 t345 t346 t347 t348 t349 t350 t369 t370 t371 t372 t373 t374 t375 t376 t377 w _ ?side1 ?side2 A22.out).mono ?_); (case side1 => repeat (first | (with_reducible first | exact HI326.out | apply IsS51.alloc | apply IsS51.drewN | apply IsS51.drew | apply IsS51.set_0 | apply IsS51.set_1 | apply IsS51.set_2 | apply IsS51.set_3 | apply IsS51.set_4 | apply IsS51.set_5 | apply IsS51.set_6) | exact HI326.out)); (case side2 => repeat (first | (with_reducible first | exact HB.out | apply below_alloc | apply pw_below_drewN | apply below_drew1 | refine below_set ?_ (IsS51.ge HI326.out) | refine below_set ?_ (IsS51.ge HI358.out)) | exact HB.out)); rintro e w25 ⟨rfl, hi, hb, hk⟩; have n0_ := Aside0.mk (IsS51.keepB (by repeat (first | (with_reducible first | exact HI358.out | apply IsS51.alloc | apply IsS51.drewN | apply IsS51.drew | apply IsS51.set_0 | apply IsS51.set_1 | apply IsS51.set_2 | apply IsS51.set_3 | apply IsS51.set_4 | apply IsS51.set_5 | apply IsS51.set_6) | exact HI358.out)) hk NB358_326.out); have n1_ := Aside0.mk (hb); have n2_ := Aside0.mk (hi); clear HI358; clear HB; clear HI326; have HI358 := n0_; have HB := n1_; have HI326 := n2_; clear n0_ n1_ n2_; (try clear hb); (try clear hb2); (try clear hk); (try clear hi); (try clear hgn)) | (go_at_call 25; (with_reducible refine (stamp_Less.calls kj5 t360 t361 t369 t370 t378 _ A23.out).mono ?_); rintro e w26 ⟨rfl, hb⟩; have n0_ := Aside0.mk (IsS51.below (by repeat (first | (with_reducible first | exact HI326.out | apply IsS51.alloc | apply IsS51.drewN | apply IsS51.drew | apply IsS51.set_0 | apply IsS51.set_1 | apply IsS51.set_2 | apply IsS51.set_3 | apply IsS51.set_4 | apply IsS51.set_5 | apply IsS51.set_6) | exact HI326.out)) hb); have n1_ := Aside0.mk (IsS51.below (by repeat (first | (with_reducible first | exact HI358.out | apply IsS51.alloc | apply IsS51.drewN | apply IsS51.drew | apply IsS51.set_0 | apply IsS51.set_1 | apply IsS51.set_2 | apply IsS51.set_3 | apply IsS51.set_4 | apply IsS51.set_5 | apply IsS51.set_6) | exact HI358.out)) hb); have n2_ := Aside0.mk (below_step (by repeat (first | (with_reducible first | exact HB.out | apply below_alloc | apply pw_below_drewN | apply below_drew1 | refine below_set ?_ (IsS51.ge HI326.out) | refine below_set ?_ (IsS51.ge HI358.out)) | exact HB.out)) hb); clear HI326; clear HI358; clear HB; have HI326 := n0_; have HI358 := n1_; have HB := n2_; clear n0_ n1_ n2_; (try clear hb); (try clear hb2); (try clear hk); (try clear hi); (try clear hgn)))
                  go_meet
                  case rel => exact ⟨_, (t378), (t371), (t372), (t373), (t374), (t375), (t376), (t377), (t362), (t363), (t364), (t365), (t366), (t367), (t368), (by first | rfl | (simp; done) | (simp [*]; done)), H', ⟨by have := HK1.out; have := HJ5.out; first | omega | exact Nat.le_refl _⟩, ⟨by repeat (first | (with_reducible first | exact HI326.out | apply IsS51.alloc | apply IsS51.drewN | apply IsS51.drew | apply IsS51.set_0 | apply IsS51.set_1 | apply IsS51.set_2 | apply IsS51.set_3 | apply IsS51.set_4 | apply IsS51.set_5 | apply IsS51.set_6) | exact HI326.out)⟩, ⟨by repeat (first | (with_reducible first | exact HI358.out | apply IsS51.alloc | apply IsS51.drewN | apply IsS51.drew | apply IsS51.set_0 | apply IsS51.set_1 | apply IsS51.set_2 | apply IsS51.set_3 | apply IsS51.set_4 | apply IsS51.set_5 | apply IsS51.set_6) | exact HI358.out)⟩, ⟨by repeat (first | (with_reducible first | exact HB.out | apply below_alloc | apply pw_below_drewN | apply below_drew1 | refine below_set ?_ (IsS51.ge HI326.out) | refine below_set ?_ (IsS51.ge HI358.out)) | exact HB.out)⟩⟩
                · rw [if_neg c20] at H
                  have c20b0 : (t359 == 0) = false := beq_eq_false_iff_ne.mpr c20
                  have c20b1 : (t359 != 0) = true := bne_iff_ne.mpr c20
                  (first | rw [c20b0] | (simp only [i64_w, i32_w]; rw [c20b0]) | skip)
                  have H' := Aside0.mk H
                  clear H
                  go_wp2
                  go_meet
                  case rel => exact ⟨_, (true), (t344), (t345), (t346), (t347), (t348), (t349), (t350), (t351), (t352), (t353), (t354), (t355), (t356), (t357), (by first | rfl | (simp; done) | (simp [*]; done)), H', ⟨by have := HK1.out; have := HJ5.out; first | omega | exact Nat.le_refl _⟩, ⟨by repeat (first | (with_reducible first | exact HI326.out | apply IsS51.alloc | apply IsS51.drewN | apply IsS51.drew | apply IsS51.set_0 | apply IsS51.set_1 | apply IsS51.set_2 | apply IsS51.set_3 | apply IsS51.set_4 | apply IsS51.set_5 | apply IsS51.set_6) | exact HI326.out)⟩, ⟨by repeat (first | (with_reducible first | exact HI358.out | apply IsS51.alloc | apply IsS51.drewN | apply IsS51.drew | apply IsS51.set_0 | apply IsS51.set_1 | apply IsS51.set_2 | apply IsS51.set_3 | apply IsS51.set_4 | apply IsS51.set_5 | apply IsS51.set_6) | exact HI358.out)⟩, ⟨by repeat (first | (with_reducible first | exact HB.out | apply below_alloc | apply pw_below_drewN | apply below_drew1 | refine below_set ?_ (IsS51.ge HI326.out) | refine below_set ?_ (IsS51.ge HI358.out)) | exact HB.out)⟩⟩
              case rest =>
                clear HC17
                try clear c1
                try clear c2
                try clear p2
                try clear p3
                try clear q3
                try clear hx3
                try clear c4
                try clear c4b0
                try clear c4b1
                try clear p6
                try clear c7
                try clear c7b0
                try clear c8
                try clear c9
                try clear c9b0
                try clear c10
                try clear c10b0
                try clear c20
                try clear c20b0
                try clear c20b1
                try clear c22
                try clear c23
                try clear c24
                try clear hx328_0
                try clear hx328_1
                try clear hx328_2
                try clear hx328_3
                try clear p2
                try clear p328
                try clear q328
                obtain ⟨kq, x50_16, x327000_16, x327001_16, x327002_16, x327003_16, x327004_16, x327005_16, x327006_16, x359000_16, x359001_16, x359002_16, x359003_16, x359004_16, x359005_16, x359006_16, rfl, HA, HJ16, HI326, HI358, HB⟩ := hcut
                cases kq with
                | zero => exact absurd HA.out (by simp [scriptoriumlaw06_ClockAnew.j2])
                | succ kj16 =>
                  have H := HA.out
                  clear HA
                  simp only [scriptoriumlaw06_ClockAnew.j2] at H
                  by_cases c27 : x50_16 = true
                  · subst c27
                    have H1 : (some false) = some r := by rw [if_pos rfl] at H; exact H
                    clear H
                    have H := H1
                    clear H1
                    exact absurd (Option.some.inj (H.trans (congrArg some hrt))) (by decide)
                  · replace c27 := Bool.eq_false_iff.mpr c27
                    subst c27
                    have H1 : (scriptoriumlaw06_ClockAnew.l1 kj16 l1 0 x327000_16 x327001_16 x327002_16 x327003_16 x327004_16 x327005_16 x327006_16 x359000_16 x359001_16 x359002_16 x359003_16 x359004_16 x359005_16 x359006_16) = some r := by rw [if_neg (show ¬ (false = true) by decide)] at H; exact H
                    clear H
                    have H := H1
                    clear H1
                    have H' := Aside0.mk H
                    clear H
                    go_wp2
                    go_loopg [10] kj16 (fun kq v10 w' => ∃ (x10_4 : Int) (x327000_4 : Int) (x327001_4 : Int) (x327002_4 : Int) (x327003_4 : Int) (x327004_4 : Int) (x327005_4 : Int) (x327006_4 : Bool) (x359000_4 : Int) (x359001_4 : Int) (x359002_4 : Int) (x359003_4 : Int) (x359004_4 : Int) (x359005_4 : Int) (x359006_4 : Bool), v10 = .int .i64 x10_4 ∧ Aside0 (scriptoriumlaw06_ClockAnew.l1 kq l1 x10_4 x327000_4 x327001_4 x327002_4 x327003_4 x327004_4 x327005_4 x327006_4 x359000_4 x359001_4 x359002_4 x359003_4 x359004_4 x359005_4 x359006_4 = some r) ∧ Aside0 (kq ≤ kj16) ∧ Aside0 (IsS51 w w' g326 x327000_4 x327001_4 x327002_4 x327003_4 x327004_4 x327005_4 x327006_4) ∧ Aside0 (IsS51 w w' g358 x359000_4 x359001_4 x359002_4 x359003_4 x359004_4 x359005_4 x359006_4) ∧ Aside0 (Below w.heap.size w w'))
                    case atStart => exact ⟨(0), (x327000_16), (x327001_16), (x327002_16), (x327003_16), (x327004_16), (x327005_16), (x327006_16), (x359000_16), (x359001_16), (x359002_16), (x359003_16), (x359004_16), (x359005_16), (x359006_16), (by first | rfl | (simp; done) | (simp [*]; done)), H', ⟨Nat.le_refl _⟩, ⟨by repeat (first | (with_reducible first | exact HI326.out | apply IsS51.alloc | apply IsS51.drewN | apply IsS51.drew | apply IsS51.set_0 | apply IsS51.set_1 | apply IsS51.set_2 | apply IsS51.set_3 | apply IsS51.set_4 | apply IsS51.set_5 | apply IsS51.set_6) | exact HI326.out)⟩, ⟨by repeat (first | (with_reducible first | exact HI358.out | apply IsS51.alloc | apply IsS51.drewN | apply IsS51.drew | apply IsS51.set_0 | apply IsS51.set_1 | apply IsS51.set_2 | apply IsS51.set_3 | apply IsS51.set_4 | apply IsS51.set_5 | apply IsS51.set_6) | exact HI358.out)⟩, ⟨by repeat (first | (with_reducible first | exact HB.out | apply below_alloc | apply pw_below_drewN | apply below_drew1 | refine below_set ?_ (IsS51.ge HI326.out) | refine below_set ?_ (IsS51.ge HI358.out)) | exact HB.out)⟩⟩
                    case round =>
                      clear H'
                      try clear c1
                      try clear c2
                      try clear p2
                      try clear p3
                      try clear q3
                      try clear hx3
                      try clear c4
                      try clear c4b0
                      try clear c4b1
                      try clear p6
                      try clear c7
                      try clear c7b0
                      try clear c8
                      try clear c9
                      try clear c9b0
                      try clear c10
                      try clear c10b0
                      try clear c20
                      try clear c20b0
                      try clear c20b1
                      try clear c22
                      try clear c23
                      try clear c24
                      try clear c27
                      try clear hx328_0
                      try clear hx328_1
                      try clear hx328_2
                      try clear hx328_3
                      try clear p2
                      try clear p3
                      try clear p328
                      try clear p6
                      try clear q3
                      try clear q328
                      obtain ⟨x10_4, x327000_4, x327001_4, x327002_4, x327003_4, x327004_4, x327005_4, x327006_4, x359000_4, x359001_4, x359002_4, x359003_4, x359004_4, x359005_4, x359006_4, rfl, HA, HK4, HI326, HI358, HB⟩ := hrel
                      cases gk with
                      | zero => exact absurd HA.out (by simp [scriptoriumlaw06_ClockAnew.l1])
                      | succ k4 =>
                        have H := HA.out
                        clear HA
                        simp only [scriptoriumlaw06_ClockAnew.l1] at H
                        have HC28 := Aside0.mk H
                        clear H
                        go_upto_region 12 with (fail)
                        go_cut [58] (fun v58 wc => ∃ (kq : Nat) (x58_27 : Bool), v58 = .bool x58_27 ∧ Aside0 (scriptoriumlaw06_ClockAnew.j4 kq l1 x10_4 x58_27 x327000_4 x327001_4 x327002_4 x327003_4 x327004_4 x327005_4 x327006_4 x359000_4 x359001_4 x359002_4 x359003_4 x359004_4 x359005_4 x359006_4 = some r) ∧ Aside0 (kq ≤ k4) ∧ Aside0 (IsS51 w wc g326 x327000_4 x327001_4 x327002_4 x327003_4 x327004_4 x327005_4 x327006_4) ∧ Aside0 (IsS51 w wc g358 x359000_4 x359001_4 x359002_4 x359003_4 x359004_4 x359005_4 x359006_4) ∧ Aside0 (Below w.heap.size w wc))
                        case first =>
                          have H := HC28.out
                          clear HC28
                          by_cases c29 : x10_4 < (l1.length : Int)
                          · rw [if_pos c29] at H
                            have c29b0 : decide (x10_4 < (l1.length : Int)) = true := decide_eq_true c29
                            clear c29
                            (first | rw [c29b0] | (simp only [i64_w, i32_w]; rw [c29b0]) | skip)
                            have H' := Aside0.mk H
                            clear H
                            go_wp2
                            go_meet
                            case rel => exact ⟨_, (decide (x10_4 < 100)), (by first | rfl | (simp; done) | (simp [*]; done)), H', ⟨by have := HK1.out; have := HJ5.out; have := HJ16.out; have := HK4.out; first | omega | exact Nat.le_refl _⟩, ⟨by repeat (first | (with_reducible first | exact HI326.out | apply IsS51.alloc | apply IsS51.drewN | apply IsS51.drew | apply IsS51.set_0 | apply IsS51.set_1 | apply IsS51.set_2 | apply IsS51.set_3 | apply IsS51.set_4 | apply IsS51.set_5 | apply IsS51.set_6) | exact HI326.out)⟩, ⟨by repeat (first | (with_reducible first | exact HI358.out | apply IsS51.alloc | apply IsS51.drewN | apply IsS51.drew | apply IsS51.set_0 | apply IsS51.set_1 | apply IsS51.set_2 | apply IsS51.set_3 | apply IsS51.set_4 | apply IsS51.set_5 | apply IsS51.set_6) | exact HI358.out)⟩, ⟨by repeat (first | (with_reducible first | exact HB.out | apply below_alloc | apply pw_below_drewN | apply below_drew1 | refine below_set ?_ (IsS51.ge HI326.out) | refine below_set ?_ (IsS51.ge HI358.out)) | exact HB.out)⟩⟩
                          · rw [if_neg c29] at H
                            have c29b0 : decide (x10_4 < (l1.length : Int)) = false := decide_eq_false c29
                            clear c29
                            (first | rw [c29b0] | (simp only [i64_w, i32_w]; rw [c29b0]) | skip)
                            have H' := Aside0.mk H
                            clear H
                            go_wp2
                            go_meet
                            case rel => exact ⟨_, (false), (by first | rfl | (simp; done) | (simp [*]; done)), H', ⟨by have := HK1.out; have := HJ5.out; have := HJ16.out; have := HK4.out; first | omega | exact Nat.le_refl _⟩, ⟨by repeat (first | (with_reducible first | exact HI326.out | apply IsS51.alloc | apply IsS51.drewN | apply IsS51.drew | apply IsS51.set_0 | apply IsS51.set_1 | apply IsS51.set_2 | apply IsS51.set_3 | apply IsS51.set_4 | apply IsS51.set_5 | apply IsS51.set_6) | exact HI326.out)⟩, ⟨by repeat (first | (with_reducible first | exact HI358.out | apply IsS51.alloc | apply IsS51.drewN | apply IsS51.drew | apply IsS51.set_0 | apply IsS51.set_1 | apply IsS51.set_2 | apply IsS51.set_3 | apply IsS51.set_4 | apply IsS51.set_5 | apply IsS51.set_6) | exact HI358.out)⟩, ⟨by repeat (first | (with_reducible first | exact HB.out | apply below_alloc | apply pw_below_drewN | apply below_drew1 | refine below_set ?_ (IsS51.ge HI326.out) | refine below_set ?_ (IsS51.ge HI358.out)) | exact HB.out)⟩⟩
                        case rest =>
                          clear HC28
                          try clear c1
                          try clear c2
                          try clear p2
                          try clear p3
                          try clear q3
                          try clear hx3
                          try clear c4
                          try clear c4b0
                          try clear c4b1
                          try clear p6
                          try clear c7
                          try clear c7b0
                          try clear c8
                          try clear c9
                          try clear c9b0
                          try clear c10
                          try clear c10b0
                          try clear c20
                          try clear c20b0
                          try clear c20b1
                          try clear c22
                          try clear c23
                          try clear c24
                          try clear c27
                          try clear c29
                          try clear c29b0
                          try clear hx328_0
                          try clear hx328_1
                          try clear hx328_2
                          try clear hx328_3
                          try clear p2
                          try clear p3
                          try clear p328
                          try clear p6
                          try clear q3
                          try clear q328
                          obtain ⟨kq, x58_27, rfl, HA, HJ27, HI326, HI358, HB⟩ := hcut
                          cases kq with
                          | zero => exact absurd HA.out (by simp [scriptoriumlaw06_ClockAnew.j4])
                          | succ kj27 =>
                            have H := HA.out
                            clear HA
                            simp only [scriptoriumlaw06_ClockAnew.j4] at H
                            by_cases c30 : x58_27 = true
                            · subst c30
                              have H1 : (if 0 ≤ x10_4 then (if x10_4 < (l1.length : Int) then ((scriptoriumlaw06_bring.f ((rd_T45 l1 x10_4).f0) ((rd_T45 l1 x10_4).f1) ((rd_T45 l1 x10_4).f2.f0) ((rd_T45 l1 x10_4).f2.f1)).bind fun bt380 => ((scriptoriumlaw06_does.f x359000_4 x359001_4 x359002_4 x359003_4 x359004_4 x359005_4 x359006_4 bt380.1 bt380.2.1 bt380.2.2.1 bt380.2.2.2).bind fun bt384 => (if bt384.2.2.1 = true then ((clock_Clock_Last.f x327000_4 x327001_4 x327002_4 x327003_4 x327004_4 x327005_4 x327006_4).bind fun bt395 => ((stamp_Less.f kj27 bt395.1 bt395.2.1 bt384.1 bt384.2.1).bind fun t404 => (if t404 = true then (scriptoriumlaw06_ClockAnew.l1 kj27 l1 (wrap64 (x10_4 + 1)) bt395.2.2.1 bt395.2.2.2.1 bt395.2.2.2.2.1 bt395.2.2.2.2.2.1 bt395.2.2.2.2.2.2.1 bt395.2.2.2.2.2.2.2.1 bt395.2.2.2.2.2.2.2.2 bt384.2.2.2.1 bt384.2.2.2.2.1 bt384.2.2.2.2.2.1 bt384.2.2.2.2.2.2.1 bt384.2.2.2.2.2.2.2.1 bt384.2.2.2.2.2.2.2.2.1 bt384.2.2.2.2.2.2.2.2.2) else (some false)))) else (scriptoriumlaw06_ClockAnew.l1 kj27 l1 (wrap64 (x10_4 + 1)) x327000_4 x327001_4 x327002_4 x327003_4 x327004_4 x327005_4 x327006_4 bt384.2.2.2.1 bt384.2.2.2.2.1 bt384.2.2.2.2.2.1 bt384.2.2.2.2.2.2.1 bt384.2.2.2.2.2.2.2.1 bt384.2.2.2.2.2.2.2.2.1 bt384.2.2.2.2.2.2.2.2.2)))) else (none)) else (none)) = some r := by rw [if_pos rfl] at H; exact H
                              clear H
                              have H := H1
                              clear H1
                              by_cases c31 : 0 ≤ x10_4
                              · rw [if_pos c31] at H
                                have c31b0 : decide (0 ≤ x10_4) = true := decide_eq_true c31
                                clear c31
                                by_cases c32 : x10_4 < (l1.length : Int)
                                · rw [if_pos c32] at H
                                  have c32b0 : decide (x10_4 < (l1.length : Int)) = true := decide_eq_true c32
                                  clear c32
                                  replace H := Option.bind_eq_some_iff.mp H
                                  obtain ⟨⟨t380, t381, t382, t383⟩, A330, H⟩ := H
                                  replace H : ((scriptoriumlaw06_does.f x359000_4 x359001_4 x359002_4 x359003_4 x359004_4 x359005_4 x359006_4 t380 t381 t382 t383).bind fun bt384 => (if bt384.2.2.1 = true then ((clock_Clock_Last.f x327000_4 x327001_4 x327002_4 x327003_4 x327004_4 x327005_4 x327006_4).bind fun bt395 => ((stamp_Less.f kj27 bt395.1 bt395.2.1 bt384.1 bt384.2.1).bind fun t404 => (if t404 = true then (scriptoriumlaw06_ClockAnew.l1 kj27 l1 (wrap64 (x10_4 + 1)) bt395.2.2.1 bt395.2.2.2.1 bt395.2.2.2.2.1 bt395.2.2.2.2.2.1 bt395.2.2.2.2.2.2.1 bt395.2.2.2.2.2.2.2.1 bt395.2.2.2.2.2.2.2.2 bt384.2.2.2.1 bt384.2.2.2.2.1 bt384.2.2.2.2.2.1 bt384.2.2.2.2.2.2.1 bt384.2.2.2.2.2.2.2.1 bt384.2.2.2.2.2.2.2.2.1 bt384.2.2.2.2.2.2.2.2.2) else (some false)))) else (scriptoriumlaw06_ClockAnew.l1 kj27 l1 (wrap64 (x10_4 + 1)) x327000_4 x327001_4 x327002_4 x327003_4 x327004_4 x327005_4 x327006_4 bt384.2.2.2.1 bt384.2.2.2.2.1 bt384.2.2.2.2.2.1 bt384.2.2.2.2.2.2.1 bt384.2.2.2.2.2.2.2.1 bt384.2.2.2.2.2.2.2.2.1 bt384.2.2.2.2.2.2.2.2.2))) = some r := H
                                  have A33 := Aside0.mk A330
                                  clear A330
                                  replace H := Option.bind_eq_some_iff.mp H
                                  obtain ⟨⟨t384, t385, t386, t387, t388, t389, t390, t391, t392, t393⟩, A340, H⟩ := H
                                  replace H : (if t386 = true then ((clock_Clock_Last.f x327000_4 x327001_4 x327002_4 x327003_4 x327004_4 x327005_4 x327006_4).bind fun bt395 => ((stamp_Less.f kj27 bt395.1 bt395.2.1 t384 t385).bind fun t404 => (if t404 = true then (scriptoriumlaw06_ClockAnew.l1 kj27 l1 (wrap64 (x10_4 + 1)) bt395.2.2.1 bt395.2.2.2.1 bt395.2.2.2.2.1 bt395.2.2.2.2.2.1 bt395.2.2.2.2.2.2.1 bt395.2.2.2.2.2.2.2.1 bt395.2.2.2.2.2.2.2.2 t387 t388 t389 t390 t391 t392 t393) else (some false)))) else (scriptoriumlaw06_ClockAnew.l1 kj27 l1 (wrap64 (x10_4 + 1)) x327000_4 x327001_4 x327002_4 x327003_4 x327004_4 x327005_4 x327006_4 t387 t388 t389 t390 t391 t392 t393)) = some r := H
                                  have A34 := Aside0.mk A340
                                  clear A340
                                  by_cases c35 : t386 = true
                                  · subst c35
                                    have H1 : ((clock_Clock_Last.f x327000_4 x327001_4 x327002_4 x327003_4 x327004_4 x327005_4 x327006_4).bind fun bt395 => ((stamp_Less.f kj27 bt395.1 bt395.2.1 t384 t385).bind fun t404 => (if t404 = true then (scriptoriumlaw06_ClockAnew.l1 kj27 l1 (wrap64 (x10_4 + 1)) bt395.2.2.1 bt395.2.2.2.1 bt395.2.2.2.2.1 bt395.2.2.2.2.2.1 bt395.2.2.2.2.2.2.1 bt395.2.2.2.2.2.2.2.1 bt395.2.2.2.2.2.2.2.2 t387 t388 t389 t390 t391 t392 t393) else (some false)))) = some r := by rw [if_pos rfl] at H; exact H
                                    clear H
                                    have H := H1
                                    clear H1
                                    replace H := Option.bind_eq_some_iff.mp H
                                    obtain ⟨⟨t395, t396, t397, t398, t399, t400, t401, t402, t403⟩, A360, H⟩ := H
                                    replace H : ((stamp_Less.f kj27 t395 t396 t384 t385).bind fun t404 => (if t404 = true then (scriptoriumlaw06_ClockAnew.l1 kj27 l1 (wrap64 (x10_4 + 1)) t397 t398 t399 t400 t401 t402 t403 t387 t388 t389 t390 t391 t392 t393) else (some false))) = some r := H
                                    have A36 := Aside0.mk A360
                                    clear A360
                                    replace H := Option.bind_eq_some_iff.mp H
                                    obtain ⟨t404, A370, H⟩ := H
                                    replace H : (if t404 = true then (scriptoriumlaw06_ClockAnew.l1 kj27 l1 (wrap64 (x10_4 + 1)) t397 t398 t399 t400 t401 t402 t403 t387 t388 t389 t390 t391 t392 t393) else (some false)) = some r := H
                                    have A37 := Aside0.mk A370
                                    clear A370
                                    by_cases c38 : t404 = true
                                    · subst c38
                                      have H1 : (scriptoriumlaw06_ClockAnew.l1 kj27 l1 (wrap64 (x10_4 + 1)) t397 t398 t399 t400 t401 t402 t403 t387 t388 t389 t390 t391 t392 t393) = some r := by rw [if_pos rfl] at H; exact H
                                      clear H
                                      have H := H1
                                      clear H1
                                      have H' := Aside0.mk H
                                      clear H
                                      have p379 : 0 ≤ (x10_4 : Int) := of_decide_eq_true (by first | (with_reducible assumption) | assumption)
                                      have q379 : x10_4 < (l1.length : Int) := of_decide_eq_true (by first | (with_reducible assumption) | assumption)
                                      obtain ⟨ad379, e379, hx379_0, hx379_1, hx379_2, hx379_3⟩ := at_T45 HR1.out x10_4 p379 q379
                                      cases e379
                                      replace hx379_0 := (HB.out.cell (World.block_lt_of_cell? w _ hx379_0)).trans hx379_0
                                      replace hx379_1 := (HB.out.cell (World.block_lt_of_cell? w _ hx379_1)).trans hx379_1
                                      replace hx379_2 := (HB.out.cell (World.block_lt_of_cell? w _ hx379_2)).trans hx379_2
                                      replace hx379_3 := (HB.out.cell (World.block_lt_of_cell? w _ hx379_3)).trans hx379_3
                                      replace p379 := eq_true p379
                                      replace q379 := eq_true q379
                                      try go_wp2_with (first | ((with_reducible refine gate_callee (f := 23) rfl ?_); refine goesL_ (some 67) rfl rfl Try.func23 (by kernel_rfl) rfl #[.agg #[.int .i64 ((rd_T45 l1 x10_4).f0), .int .i64 ((rd_T45 l1 x10_4).f1), .int .i64 ((rd_T45 l1 x10_4).f2.f0), .int .i64 ((rd_T45 l1 x10_4).f2.f1)]] rfl (by (try simp only [List.map_toArray, List.map_cons, List.map_nil]); first | done | rfl | (simp only [List.length_drop, List.length_take]; rfl)) ?_; (with_reducible refine (scriptoriumlaw06_bring.calls ((rd_T45 l1 x10_4).f0) ((rd_T45 l1 x10_4).f1) ((rd_T45 l1 x10_4).f2.f0) ((rd_T45 l1 x10_4).f2.f1) t380 t381 t382 t383 _ A33.out).mono ?_); rintro e w39 ⟨rfl, hb⟩; refine ⟨_, rfl, ?_⟩; have n0_ := Aside0.mk (IsS51.below (by repeat (first | (with_reducible first | exact HI326.out | apply IsS51.alloc | apply IsS51.drewN | apply IsS51.drew | apply IsS51.set_0 | apply IsS51.set_1 | apply IsS51.set_2 | apply IsS51.set_3 | apply IsS51.set_4 | apply IsS51.set_5 | apply IsS51.set_6) | exact HI326.out)) hb); have n1_ := Aside0.mk (IsS51.below (by repeat (first | (with_reducible first | exact HI358.out | apply IsS51.alloc | apply IsS51.drewN | apply IsS51.drew | apply IsS51.set_0 | apply IsS51.set_1 | apply IsS51.set_2 | apply IsS51.set_3 | apply IsS51.set_4 | apply IsS51.set_5 | apply IsS51.set_6) | exact HI358.out)) hb); have n2_ := Aside0.mk (below_step (by repeat (first | (with_reducible first | exact HB.out | apply below_alloc | apply pw_below_drewN | apply below_drew1 | refine below_set ?_ (IsS51.ge HI326.out) | refine below_set ?_ (IsS51.ge HI358.out)) | exact HB.out)) hb); clear HI326; clear HI358; clear HB; have HI326 := n0_; have HI358 := n1_; have HB := n2_; clear n0_ n1_ n2_; (try clear hb); (try clear hb2); (try clear hk); (try clear hi); (try clear hgn)) | ((with_reducible refine gate_callee (f := 24) rfl ?_); refine goesL_ (some 68) rfl rfl Try.func24 (by kernel_rfl) rfl #[.pointer (some ⟨g358, 0, none⟩), .agg #[.int .i64 t380, .int .i64 t381, .int .i64 t382, .int .i64 t383]] rfl (by (try simp only [List.map_toArray, List.map_cons, List.map_nil]); first | done | rfl | (simp only [List.length_drop, List.length_take]; rfl)) ?_; (with_reducible refine (scriptoriumlaw06_does.calls g358 x359000_4 x359001_4 x359002_4 x359003_4 x359004_4 x359005_4 x359006_4 t380 t381 t382 t383 t384 t385 true t387 t388 t389 t390 t391 t392 t393 w _ ?side1 ?side2 A34.out).mono ?_); (case side1 => repeat (first | (with_reducible first | exact HI358.out | apply IsS51.alloc | apply IsS51.drewN | apply IsS51.drew | apply IsS51.set_0 | apply IsS51.set_1 | apply IsS51.set_2 | apply IsS51.set_3 | apply IsS51.set_4 | apply IsS51.set_5 | apply IsS51.set_6) | exact HI358.out)); (case side2 => repeat (first | (with_reducible first | exact HB.out | apply below_alloc | apply pw_below_drewN | apply below_drew1 | refine below_set ?_ (IsS51.ge HI326.out) | refine below_set ?_ (IsS51.ge HI358.out)) | exact HB.out)); rintro e w40 ⟨rfl, hi, hb, hk⟩; refine ⟨_, rfl, ?_⟩; have n0_ := Aside0.mk (IsS51.keepB (by repeat (first | (with_reducible first | exact HI326.out | apply IsS51.alloc | apply IsS51.drewN | apply IsS51.drew | apply IsS51.set_0 | apply IsS51.set_1 | apply IsS51.set_2 | apply IsS51.set_3 | apply IsS51.set_4 | apply IsS51.set_5 | apply IsS51.set_6) | exact HI326.out)) hk NB326_358.out); have n1_ := Aside0.mk (hb); have n2_ := Aside0.mk (hi); clear HI326; clear HB; clear HI358; have HI326 := n0_; have HB := n1_; have HI358 := n2_; clear n0_ n1_ n2_; (try clear hb); (try clear hb2); (try clear hk); (try clear hi); (try clear hgn)) | ((with_reducible refine gate_dst (N := 11) rfl ?_); refine box_event ?hg (N := 11) ?hd (cs := #[.int .i64 0, .int .i64 0]) (t := 33) ?hr ?_; (case hd => rfl); (case hg => rfl); (case hr => first | (go_simp; done) | (go_simp; rfl)); intro gb394 hg w41 hbox hb; have n0_ := Aside0.mk (IsS51.below (by repeat (first | (with_reducible first | exact HI326.out | apply IsS51.alloc | apply IsS51.drewN | apply IsS51.drew | apply IsS51.set_0 | apply IsS51.set_1 | apply IsS51.set_2 | apply IsS51.set_3 | apply IsS51.set_4 | apply IsS51.set_5 | apply IsS51.set_6) | exact HI326.out)) hb); have n1_ := Aside0.mk (IsS51.below (by repeat (first | (with_reducible first | exact HI358.out | apply IsS51.alloc | apply IsS51.drewN | apply IsS51.drew | apply IsS51.set_0 | apply IsS51.set_1 | apply IsS51.set_2 | apply IsS51.set_3 | apply IsS51.set_4 | apply IsS51.set_5 | apply IsS51.set_6) | exact HI358.out)) hb); have n2_ := Aside0.mk (below_step (by repeat (first | (with_reducible first | exact HB.out | apply below_alloc | apply pw_below_drewN | apply below_drew1 | refine below_set ?_ (IsS51.ge HI326.out) | refine below_set ?_ (IsS51.ge HI358.out)) | exact HB.out)) hb); have n3_ := Aside0.mk (hbox); have n4_ := Aside0.mk ((by rw [hg]; exact (below_size (by repeat (first | (with_reducible first | exact HB.out | apply below_alloc | apply pw_below_drewN | apply below_drew1 | refine below_set ?_ (IsS51.ge HI326.out) | refine below_set ?_ (IsS51.ge HI358.out)) | exact HB.out))) : w.heap.size ≤ gb394)); have n5_ := Aside0.mk ((by rw [hg]; exact (below_size (by repeat (first | (with_reducible first | exact HB.out | apply below_alloc | apply pw_below_drewN | apply below_drew1 | refine below_set ?_ (IsS51.ge HI326.out) | refine below_set ?_ (IsS51.ge HI358.out)) | exact HB.out))) : w.heap.size ≤ gb394)); have n6_ := Aside0.mk ((by rw [hg]; exact Nat.ne_of_lt (IsS51.lt (show IsS51 w _ g326 x327000_4 x327001_4 x327002_4 x327003_4 x327004_4 x327005_4 x327006_4 from by repeat (first | (with_reducible first | exact HI326.out | apply IsS51.alloc | apply IsS51.drewN | apply IsS51.drew | apply IsS51.set_0 | apply IsS51.set_1 | apply IsS51.set_2 | apply IsS51.set_3 | apply IsS51.set_4 | apply IsS51.set_5 | apply IsS51.set_6) | exact HI326.out))) : g326 ≠ gb394)); have n7_ := Aside0.mk ((by rw [hg]; exact Nat.ne_of_gt (IsS51.lt (show IsS51 w _ g326 x327000_4 x327001_4 x327002_4 x327003_4 x327004_4 x327005_4 x327006_4 from by repeat (first | (with_reducible first | exact HI326.out | apply IsS51.alloc | apply IsS51.drewN | apply IsS51.drew | apply IsS51.set_0 | apply IsS51.set_1 | apply IsS51.set_2 | apply IsS51.set_3 | apply IsS51.set_4 | apply IsS51.set_5 | apply IsS51.set_6) | exact HI326.out))) : gb394 ≠ g326)); have n8_ := Aside0.mk ((by rw [hg]; exact Nat.ne_of_lt (IsS51.lt (show IsS51 w _ g358 t387 t388 t389 t390 t391 t392 t393 from by repeat (first | (with_reducible first | exact HI358.out | apply IsS51.alloc | apply IsS51.drewN | apply IsS51.drew | apply IsS51.set_0 | apply IsS51.set_1 | apply IsS51.set_2 | apply IsS51.set_3 | apply IsS51.set_4 | apply IsS51.set_5 | apply IsS51.set_6) | exact HI358.out))) : g358 ≠ gb394)); have n9_ := Aside0.mk ((by rw [hg]; exact Nat.ne_of_gt (IsS51.lt (show IsS51 w _ g358 t387 t388 t389 t390 t391 t392 t393 from by repeat (first | (with_reducible first | exact HI358.out | apply IsS51.alloc | apply IsS51.drewN | apply IsS51.drew | apply IsS51.set_0 | apply IsS51.set_1 | apply IsS51.set_2 | apply IsS51.set_3 | apply IsS51.set_4 | apply IsS51.set_5 | apply IsS51.set_6) | exact HI358.out))) : gb394 ≠ g358)); clear HI326; clear HI358; clear HB; have HI326 := n0_; have HI358 := n1_; have HB := n2_; have BK394 := n3_; have GW394 := n4_; have GE394 := n5_; have NB326_394 := n6_; have NB394_326 := n7_; have NB358_394 := n8_; have NB394_358 := n9_; clear n0_ n1_ n2_ n3_ n4_ n5_ n6_ n7_ n8_ n9_; clear hb hbox hg; have hnb42 := NB394_326.out; have hnc42 := NB326_394.out; have hnb43 := NB394_358.out; have hnc43 := NB358_394.out; have hcz44_0 : w41.cell? ⟨gb394, 0, none⟩ = some (.int .i64 0) := (blk_cell BK394.out 0).trans rfl; have hcz44_1 : w41.cell? ⟨gb394, 1, none⟩ = some (.int .i64 0) := (blk_cell BK394.out 1).trans rfl; have hfz44_0 := blk_frozen BK394.out 0; have hfz44_1 := blk_frozen BK394.out 1))
                                      have n0_ : Aside0 (((w41.setCell ⟨gb394, 0, none⟩ (.int .i64 t384)).setCell ⟨gb394, 1, none⟩ (.int .i64 t385)).heap[gb394]? = some (.cells #[.int .i64 t384, .int .i64 t385] 33 (0, 0))) := ⟨by (with_reducible repeat (first | refine blk_drewN ?_ _ | refine blk_drew ?_ | refine blk_alloc ?_ _)); refine blk_put (cs := #[.int .i64 t384, .int .i64 0]) ?_ 1 _ rfl; (with_reducible repeat (first | refine blk_drewN ?_ _ | refine blk_drew ?_ | refine blk_alloc ?_ _)); refine blk_put (cs := #[.int .i64 0, .int .i64 0]) ?_ 0 _ rfl; (with_reducible repeat (first | refine blk_drewN ?_ _ | refine blk_drew ?_ | refine blk_alloc ?_ _)); exact BK394.out⟩
                                      have n1_ : Aside0 (IsS51 w ((w41.setCell ⟨gb394, 0, none⟩ (.int .i64 t384)).setCell ⟨gb394, 1, none⟩ (.int .i64 t385)) g326 x327000_4 x327001_4 x327002_4 x327003_4 x327004_4 x327005_4 x327006_4) := ⟨by repeat (first | (with_reducible first | exact HI326.out | apply IsS51.alloc | apply IsS51.drewN | apply IsS51.drew | apply IsS51.set_0 | apply IsS51.set_1 | apply IsS51.set_2 | apply IsS51.set_3 | apply IsS51.set_4 | apply IsS51.set_5 | apply IsS51.set_6 | refine IsS51.far ?_ NB326_394.out _) | exact HI326.out)⟩
                                      have n2_ : Aside0 (IsS51 w ((w41.setCell ⟨gb394, 0, none⟩ (.int .i64 t384)).setCell ⟨gb394, 1, none⟩ (.int .i64 t385)) g358 t387 t388 t389 t390 t391 t392 t393) := ⟨by repeat (first | (with_reducible first | exact HI358.out | apply IsS51.alloc | apply IsS51.drewN | apply IsS51.drew | apply IsS51.set_0 | apply IsS51.set_1 | apply IsS51.set_2 | apply IsS51.set_3 | apply IsS51.set_4 | apply IsS51.set_5 | apply IsS51.set_6 | refine IsS51.far ?_ NB358_394.out _) | exact HI358.out)⟩
                                      have n3_ : Aside0 (Below w.heap.size w ((w41.setCell ⟨gb394, 0, none⟩ (.int .i64 t384)).setCell ⟨gb394, 1, none⟩ (.int .i64 t385))) := ⟨by repeat (first | (with_reducible first | exact HB.out | apply below_alloc | apply pw_below_drewN | apply below_drew1 | refine below_set ?_ (IsS51.ge HI326.out) | refine below_set ?_ (IsS51.ge HI358.out) | refine below_set ?_ GE394.out) | exact HB.out)⟩
                                      (try clear BK394)
                                      (try clear HI326)
                                      (try clear HI358)
                                      (try clear HB)
                                      generalize ((w41.setCell ⟨gb394, 0, none⟩ (.int .i64 t384)).setCell ⟨gb394, 1, none⟩ (.int .i64 t385)) = w45 at n0_ n1_ n2_ n3_ ⊢
                                      have BK394 := n0_
                                      have HI326 := n1_
                                      have HI358 := n2_
                                      have HB := n3_
                                      clear n0_ n1_ n2_ n3_
                                      have n0_ := Aside0.mk (blk_drew BK394.out)
                                      have n1_ := Aside0.mk (IsS51.drew HI326.out)
                                      have n2_ := Aside0.mk (IsS51.drew HI358.out)
                                      have n3_ := Aside0.mk (below_drew1 HB.out)
                                      clear BK394
                                      clear HI326
                                      clear HI358
                                      clear HB
                                      have BK394 := n0_
                                      have HI326 := n1_
                                      have HI358 := n2_
                                      have HB := n3_
                                      clear n0_ n1_ n2_ n3_
                                      refine start_ (n := 8) (S := fun w' => w'.cell? ⟨gb394, 0, none⟩ = some (.int .i64 t384) ∧ w'.cell? ⟨gb394, 1, none⟩ = some (.int .i64 t385)) (ds := []) #[false, false, false, false, false, false, false, false] (by kernel_rfl) rfl rfl ⟨(blk_cell BK394.out 0).trans rfl, (blk_cell BK394.out 1).trans rfl⟩ (fun hHeld => ?_); refine with_tabW scriptoriumlaw06_ClockAnew.tab15 scriptoriumlaw06_ClockAnew.bits15 (fun HT_ HW_ => ?_)
                                      generalize w45.drew = w46 at BK394 HI326 HI358 HB hHeld ⊢
                                      refine pure_ (i := 0) (N := some 71) (v := ?_) (a' := ?_) #[true, false, false, false, false, false, false, false] rfl rfl (any_of HT_.out (by kernel_rfl)) (fun _ _ _ h => h) (Or.inl ⟨by rfl, ?_⟩) ?_ ?_
                                      rotate_left
                                      · intro w'
                                        go_simp
                                        with_reducible rfl
                                      rotate_left
                                      · simp only [Act.put, List.setIfInBounds_toArray, List.set_cons_zero, List.set_cons_succ, i64_w, i32_w]
                                        rfl
                                      refine pure_ (i := 1) (N := some 72) (v := ?_) (a' := ?_) #[true, true, false, false, false, false, false, false] rfl rfl (any_of HT_.out (by kernel_rfl)) (fun _ _ _ h => h) (Or.inl ⟨by rfl, ?_⟩) ?_ ?_
                                      rotate_left
                                      · intro w'
                                        go_simp
                                        with_reducible rfl
                                      rotate_left
                                      · simp only [Act.put, List.setIfInBounds_toArray, List.set_cons_zero, List.set_cons_succ, i64_w, i32_w]
                                        rfl
                                      refine pure_ (i := 2) (N := some 73) (v := ?_) (a' := ?_) #[true, true, true, false, false, false, false, false] rfl rfl (any_of HT_.out (by kernel_rfl)) (fun _ _ _ h => h) (Or.inl ⟨by rfl, ?_⟩) ?_ ?_
                                      rotate_left
                                      · intro w'
                                        go_simp
                                        with_reducible rfl
                                      rotate_left
                                      · simp only [Act.put, List.setIfInBounds_toArray, List.set_cons_zero, List.set_cons_succ, i64_w, i32_w]
                                        rfl
                                      refine take_ (i := 4) (N := some 75) (v := ?_) (a' := ?_) #[true, true, true, false, true, false, false, false] rfl rfl (take_ofW HT_.out HW_.out (by kernel_rfl)) (fun _ _ _ h => h) (Or.inl ⟨by rfl, ?_⟩) hHeld ?_ ?_
                                      rotate_left
                                      · rintro w' ⟨s0, s1⟩
                                        go_simp
                                        with_reducible rfl
                                      rotate_left
                                      · simp only [Act.put, List.setIfInBounds_toArray, List.set_cons_zero, List.set_cons_succ, i64_w, i32_w]
                                        rfl
                                      refine one_ (i := 3) (N := some 74) #[true, true, true, true, true, false, false, false] rfl rfl (one_of HT_.out (by kernel_rfl)) (by decide) (fun K hK => ?_)
                                      refine goes_ Try.func21 (by kernel_rfl) rfl #[.pointer (some ⟨g326, 0, none⟩)] (by rfl) rfl rfl (by (try simp only [List.map_toArray, List.map_cons, List.map_nil]); first | done | rfl | (simp only [List.length_drop, List.length_take]; rfl)) ?_
                                      with_reducible refine (clock_Clock_Last.calls g326 x327000_4 x327001_4 x327002_4 x327003_4 x327004_4 x327005_4 x327006_4 t395 t396 t397 t398 t399 t400 t401 t402 t403 w _ ?side1 ?side2 A36.out).mono ?_
                                      (case side1 => repeat (first | (with_reducible first | exact HI326.out | apply IsS51.alloc | apply IsS51.drewN | apply IsS51.drew | apply IsS51.set_0 | apply IsS51.set_1 | apply IsS51.set_2 | apply IsS51.set_3 | apply IsS51.set_4 | apply IsS51.set_5 | apply IsS51.set_6 | refine IsS51.far ?_ NB326_394.out _) | exact HI326.out))
                                      (case side2 => repeat (first | (with_reducible first | exact HB.out | apply below_alloc | apply pw_below_drewN | apply below_drew1 | refine below_set ?_ (IsS51.ge HI326.out) | refine below_set ?_ (IsS51.ge HI358.out) | refine below_set ?_ GE394.out) | exact HB.out))
                                      rintro e w47 ⟨rfl, hi, hb, hk⟩
                                      refine ⟨_, rfl, ?_⟩
                                      have n0_ := Aside0.mk (IsS51.keepB (by repeat (first | (with_reducible first | exact HI358.out | apply IsS51.alloc | apply IsS51.drewN | apply IsS51.drew | apply IsS51.set_0 | apply IsS51.set_1 | apply IsS51.set_2 | apply IsS51.set_3 | apply IsS51.set_4 | apply IsS51.set_5 | apply IsS51.set_6 | refine IsS51.far ?_ NB358_394.out _) | exact HI358.out)) hk NB358_326.out)
                                      have n1_ := Aside0.mk (KeepBut.blk hk (g' := gb394) (o := .cells #[.int .i64 t384, .int .i64 t385] 33 (0, 0)) (by (with_reducible repeat (first | refine blk_drewN ?_ _ | refine blk_drew ?_ | refine blk_alloc ?_ _)); exact BK394.out) NB394_326.out (by simp))
                                      have n2_ := Aside0.mk (hb)
                                      have n3_ := Aside0.mk (hi)
                                      clear HI358
                                      clear BK394
                                      clear HB
                                      clear HI326
                                      have HI358 := n0_
                                      have BK394 := n1_
                                      have HB := n2_
                                      have HI326 := n3_
                                      clear n0_ n1_ n2_ n3_
                                      (try clear hb)
                                      (try clear hb2)
                                      (try clear hk)
                                      (try clear hi)
                                      (try clear hgn)
                                      refine hK.out _ _ ⟨(blk_cell BK394.out 0).trans rfl, (blk_cell BK394.out 1).trans rfl⟩ (fun hHeld => ?_)
                                      clear hK K
                                      refine norm_ (a' := ?_) ?_ ?_
                                      rotate_left
                                      · show Act.put _ (some 74) _ = _
                                        simp only [Act.put, List.setIfInBounds_toArray, List.set_cons_zero, List.set_cons_succ, i64_w, i32_w]
                                        rfl
                                      refine one_ (i := 5) (N := some 76) #[true, true, true, true, true, true, false, false] rfl rfl (one_of HT_.out (by kernel_rfl)) (by decide) (fun K hK => ?_)
                                      refine goes_ Try.func25 (by kernel_rfl) rfl #[.agg #[.int .i64 t395, .int .i64 t396], .agg #[.int .i64 t384, .int .i64 t385]] (by rfl) rfl rfl (by (try simp only [List.map_toArray, List.map_cons, List.map_nil]); first | done | rfl | (simp only [List.length_drop, List.length_take]; rfl)) ?_
                                      with_reducible refine (stamp_Less.calls kj27 t395 t396 t384 t385 true _ A37.out).mono ?_
                                      rintro e w48 ⟨rfl, hb⟩
                                      refine ⟨_, rfl, ?_⟩
                                      have n0_ := Aside0.mk (IsS51.below (by repeat (first | (with_reducible first | exact HI326.out | apply IsS51.alloc | apply IsS51.drewN | apply IsS51.drew | apply IsS51.set_0 | apply IsS51.set_1 | apply IsS51.set_2 | apply IsS51.set_3 | apply IsS51.set_4 | apply IsS51.set_5 | apply IsS51.set_6 | refine IsS51.far ?_ NB326_394.out _) | exact HI326.out)) hb)
                                      have n1_ := Aside0.mk (IsS51.below (by repeat (first | (with_reducible first | exact HI358.out | apply IsS51.alloc | apply IsS51.drewN | apply IsS51.drew | apply IsS51.set_0 | apply IsS51.set_1 | apply IsS51.set_2 | apply IsS51.set_3 | apply IsS51.set_4 | apply IsS51.set_5 | apply IsS51.set_6 | refine IsS51.far ?_ NB358_394.out _) | exact HI358.out)) hb)
                                      have n2_ := Aside0.mk (blk_below (g := gb394) (o := .cells #[.int .i64 t384, .int .i64 t385] 33 (0, 0)) (by (with_reducible repeat (first | refine blk_drewN ?_ _ | refine blk_drew ?_ | refine blk_alloc ?_ _)); exact BK394.out) hb)
                                      have n3_ := Aside0.mk (below_step (by repeat (first | (with_reducible first | exact HB.out | apply below_alloc | apply pw_below_drewN | apply below_drew1 | refine below_set ?_ (IsS51.ge HI326.out) | refine below_set ?_ (IsS51.ge HI358.out) | refine below_set ?_ GE394.out) | exact HB.out)) hb)
                                      clear HI326
                                      clear HI358
                                      clear BK394
                                      clear HB
                                      have HI326 := n0_
                                      have HI358 := n1_
                                      have BK394 := n2_
                                      have HB := n3_
                                      clear n0_ n1_ n2_ n3_
                                      (try clear hb)
                                      (try clear hb2)
                                      (try clear hk)
                                      (try clear hi)
                                      (try clear hgn)
                                      refine hK.out _ _ ⟨(blk_cell BK394.out 0).trans rfl, (blk_cell BK394.out 1).trans rfl⟩ (fun hHeld => ?_)
                                      clear hK K
                                      refine norm_ (a' := ?_) ?_ ?_
                                      rotate_left
                                      · show Act.put _ (some 76) _ = _
                                        simp only [Act.put, List.setIfInBounds_toArray, List.set_cons_zero, List.set_cons_succ, i64_w, i32_w]
                                        rfl
                                      refine pure_ (i := 6) (N := some 77) (v := ?_) (a' := ?_) #[true, true, true, true, true, true, true, false] rfl rfl (any_of HT_.out (by kernel_rfl)) (fun _ _ _ h => h) (Or.inl ⟨by rfl, ?_⟩) ?_ ?_
                                      rotate_left
                                      · intro w'
                                        go_simp
                                        with_reducible rfl
                                      rotate_left
                                      · simp only [Act.put, List.setIfInBounds_toArray, List.set_cons_zero, List.set_cons_succ, i64_w, i32_w]
                                        rfl
                                      refine pure_ (i := 7) (N := some 78) (v := ?_) (a' := ?_) #[true, true, true, true, true, true, true, true] rfl rfl (any_of HT_.out (by kernel_rfl)) (fun _ _ _ h => h) (Or.inl ⟨by rfl, ?_⟩) ?_ ?_
                                      rotate_left
                                      · intro w'
                                        go_simp
                                        with_reducible rfl
                                      rotate_left
                                      · simp only [Act.put, List.setIfInBounds_toArray, List.set_cons_zero, List.set_cons_succ, i64_w, i32_w]
                                        rfl
                                      refine done_ (done_of HT_.out (by kernel_rfl)) ?_
                                      try go_wp2
                                      go_roundg kj27
                                      case measure => have := HK1.out; have := HJ5.out; have := HJ16.out; have := HK4.out; have := HJ27.out; omega
                                      case rel => exact ⟨(wrap64 (x10_4 + 1)), (t397), (t398), (t399), (t400), (t401), (t402), (t403), (t387), (t388), (t389), (t390), (t391), (t392), (t393), (by first | rfl | (simp; done) | (simp [*]; done)), H', ⟨by have := HK1.out; have := HJ5.out; have := HJ16.out; have := HK4.out; have := HJ27.out; omega⟩, ⟨by repeat (first | (with_reducible first | exact HI326.out | apply IsS51.alloc | apply IsS51.drewN | apply IsS51.drew | apply IsS51.set_0 | apply IsS51.set_1 | apply IsS51.set_2 | apply IsS51.set_3 | apply IsS51.set_4 | apply IsS51.set_5 | apply IsS51.set_6 | refine IsS51.far ?_ NB326_394.out _) | exact HI326.out)⟩, ⟨by repeat (first | (with_reducible first | exact HI358.out | apply IsS51.alloc | apply IsS51.drewN | apply IsS51.drew | apply IsS51.set_0 | apply IsS51.set_1 | apply IsS51.set_2 | apply IsS51.set_3 | apply IsS51.set_4 | apply IsS51.set_5 | apply IsS51.set_6 | refine IsS51.far ?_ NB358_394.out _) | exact HI358.out)⟩, ⟨by repeat (first | (with_reducible first | exact HB.out | apply below_alloc | apply pw_below_drewN | apply below_drew1 | refine below_set ?_ (IsS51.ge HI326.out) | refine below_set ?_ (IsS51.ge HI358.out) | refine below_set ?_ GE394.out) | exact HB.out)⟩⟩
                                    · replace c38 := Bool.eq_false_iff.mpr c38
                                      subst c38
                                      have H1 : (some false) = some r := by rw [if_neg (show ¬ (false = true) by decide)] at H; exact H
                                      clear H
                                      have H := H1
                                      clear H1
                                      exact absurd (Option.some.inj (H.trans (congrArg some hrt))) (by decide)
                                  · replace c35 := Bool.eq_false_iff.mpr c35
                                    subst c35
                                    have H1 : (scriptoriumlaw06_ClockAnew.l1 kj27 l1 (wrap64 (x10_4 + 1)) x327000_4 x327001_4 x327002_4 x327003_4 x327004_4 x327005_4 x327006_4 t387 t388 t389 t390 t391 t392 t393) = some r := by rw [if_neg (show ¬ (false = true) by decide)] at H; exact H
                                    clear H
                                    have H := H1
                                    clear H1
                                    have H' := Aside0.mk H
                                    clear H
                                    have p379 : 0 ≤ (x10_4 : Int) := of_decide_eq_true (by first | (with_reducible assumption) | assumption)
                                    have q379 : x10_4 < (l1.length : Int) := of_decide_eq_true (by first | (with_reducible assumption) | assumption)
                                    obtain ⟨ad379, e379, hx379_0, hx379_1, hx379_2, hx379_3⟩ := at_T45 HR1.out x10_4 p379 q379
                                    cases e379
                                    replace hx379_0 := (HB.out.cell (World.block_lt_of_cell? w _ hx379_0)).trans hx379_0
                                    replace hx379_1 := (HB.out.cell (World.block_lt_of_cell? w _ hx379_1)).trans hx379_1
                                    replace hx379_2 := (HB.out.cell (World.block_lt_of_cell? w _ hx379_2)).trans hx379_2
                                    replace hx379_3 := (HB.out.cell (World.block_lt_of_cell? w _ hx379_3)).trans hx379_3
                                    replace p379 := eq_true p379
                                    replace q379 := eq_true q379
                                    try go_wp2_with (first | ((with_reducible refine gate_callee (f := 23) rfl ?_); refine goesL_ (some 67) rfl rfl Try.func23 (by kernel_rfl) rfl #[.agg #[.int .i64 ((rd_T45 l1 x10_4).f0), .int .i64 ((rd_T45 l1 x10_4).f1), .int .i64 ((rd_T45 l1 x10_4).f2.f0), .int .i64 ((rd_T45 l1 x10_4).f2.f1)]] rfl (by (try simp only [List.map_toArray, List.map_cons, List.map_nil]); first | done | rfl | (simp only [List.length_drop, List.length_take]; rfl)) ?_; (with_reducible refine (scriptoriumlaw06_bring.calls ((rd_T45 l1 x10_4).f0) ((rd_T45 l1 x10_4).f1) ((rd_T45 l1 x10_4).f2.f0) ((rd_T45 l1 x10_4).f2.f1) t380 t381 t382 t383 _ A33.out).mono ?_); rintro e w49 ⟨rfl, hb⟩; refine ⟨_, rfl, ?_⟩; have n0_ := Aside0.mk (IsS51.below (by repeat (first | (with_reducible first | exact HI326.out | apply IsS51.alloc | apply IsS51.drewN | apply IsS51.drew | apply IsS51.set_0 | apply IsS51.set_1 | apply IsS51.set_2 | apply IsS51.set_3 | apply IsS51.set_4 | apply IsS51.set_5 | apply IsS51.set_6) | exact HI326.out)) hb); have n1_ := Aside0.mk (IsS51.below (by repeat (first | (with_reducible first | exact HI358.out | apply IsS51.alloc | apply IsS51.drewN | apply IsS51.drew | apply IsS51.set_0 | apply IsS51.set_1 | apply IsS51.set_2 | apply IsS51.set_3 | apply IsS51.set_4 | apply IsS51.set_5 | apply IsS51.set_6) | exact HI358.out)) hb); have n2_ := Aside0.mk (below_step (by repeat (first | (with_reducible first | exact HB.out | apply below_alloc | apply pw_below_drewN | apply below_drew1 | refine below_set ?_ (IsS51.ge HI326.out) | refine below_set ?_ (IsS51.ge HI358.out)) | exact HB.out)) hb); clear HI326; clear HI358; clear HB; have HI326 := n0_; have HI358 := n1_; have HB := n2_; clear n0_ n1_ n2_; (try clear hb); (try clear hb2); (try clear hk); (try clear hi); (try clear hgn)) | ((with_reducible refine gate_callee (f := 24) rfl ?_); refine goesL_ (some 68) rfl rfl Try.func24 (by kernel_rfl) rfl #[.pointer (some ⟨g358, 0, none⟩), .agg #[.int .i64 t380, .int .i64 t381, .int .i64 t382, .int .i64 t383]] rfl (by (try simp only [List.map_toArray, List.map_cons, List.map_nil]); first | done | rfl | (simp only [List.length_drop, List.length_take]; rfl)) ?_; (with_reducible refine (scriptoriumlaw06_does.calls g358 x359000_4 x359001_4 x359002_4 x359003_4 x359004_4 x359005_4 x359006_4 t380 t381 t382 t383 t384 t385 false t387 t388 t389 t390 t391 t392 t393 w _ ?side1 ?side2 A34.out).mono ?_); (case side1 => repeat (first | (with_reducible first | exact HI358.out | apply IsS51.alloc | apply IsS51.drewN | apply IsS51.drew | apply IsS51.set_0 | apply IsS51.set_1 | apply IsS51.set_2 | apply IsS51.set_3 | apply IsS51.set_4 | apply IsS51.set_5 | apply IsS51.set_6) | exact HI358.out)); (case side2 => repeat (first | (with_reducible first | exact HB.out | apply below_alloc | apply pw_below_drewN | apply below_drew1 | refine below_set ?_ (IsS51.ge HI326.out) | refine below_set ?_ (IsS51.ge HI358.out)) | exact HB.out)); rintro e w50 ⟨rfl, hi, hb, hk⟩; refine ⟨_, rfl, ?_⟩; have n0_ := Aside0.mk (IsS51.keepB (by repeat (first | (with_reducible first | exact HI326.out | apply IsS51.alloc | apply IsS51.drewN | apply IsS51.drew | apply IsS51.set_0 | apply IsS51.set_1 | apply IsS51.set_2 | apply IsS51.set_3 | apply IsS51.set_4 | apply IsS51.set_5 | apply IsS51.set_6) | exact HI326.out)) hk NB326_358.out); have n1_ := Aside0.mk (hb); have n2_ := Aside0.mk (hi); clear HI326; clear HB; clear HI358; have HI326 := n0_; have HB := n1_; have HI358 := n2_; clear n0_ n1_ n2_; (try clear hb); (try clear hb2); (try clear hk); (try clear hi); (try clear hgn)) | ((with_reducible refine gate_dst (N := 11) rfl ?_); refine box_event ?hg (N := 11) ?hd (cs := #[.int .i64 0, .int .i64 0]) (t := 33) ?hr ?_; (case hd => rfl); (case hg => rfl); (case hr => first | (go_simp; done) | (go_simp; rfl)); intro gb394 hg w51 hbox hb; have n0_ := Aside0.mk (IsS51.below (by repeat (first | (with_reducible first | exact HI326.out | apply IsS51.alloc | apply IsS51.drewN | apply IsS51.drew | apply IsS51.set_0 | apply IsS51.set_1 | apply IsS51.set_2 | apply IsS51.set_3 | apply IsS51.set_4 | apply IsS51.set_5 | apply IsS51.set_6) | exact HI326.out)) hb); have n1_ := Aside0.mk (IsS51.below (by repeat (first | (with_reducible first | exact HI358.out | apply IsS51.alloc | apply IsS51.drewN | apply IsS51.drew | apply IsS51.set_0 | apply IsS51.set_1 | apply IsS51.set_2 | apply IsS51.set_3 | apply IsS51.set_4 | apply IsS51.set_5 | apply IsS51.set_6) | exact HI358.out)) hb); have n2_ := Aside0.mk (below_step (by repeat (first | (with_reducible first | exact HB.out | apply below_alloc | apply pw_below_drewN | apply below_drew1 | refine below_set ?_ (IsS51.ge HI326.out) | refine below_set ?_ (IsS51.ge HI358.out)) | exact HB.out)) hb); have n3_ := Aside0.mk (hbox); have n4_ := Aside0.mk ((by rw [hg]; exact (below_size (by repeat (first | (with_reducible first | exact HB.out | apply below_alloc | apply pw_below_drewN | apply below_drew1 | refine below_set ?_ (IsS51.ge HI326.out) | refine below_set ?_ (IsS51.ge HI358.out)) | exact HB.out))) : w.heap.size ≤ gb394)); have n5_ := Aside0.mk ((by rw [hg]; exact (below_size (by repeat (first | (with_reducible first | exact HB.out | apply below_alloc | apply pw_below_drewN | apply below_drew1 | refine below_set ?_ (IsS51.ge HI326.out) | refine below_set ?_ (IsS51.ge HI358.out)) | exact HB.out))) : w.heap.size ≤ gb394)); have n6_ := Aside0.mk ((by rw [hg]; exact Nat.ne_of_lt (IsS51.lt (show IsS51 w _ g326 x327000_4 x327001_4 x327002_4 x327003_4 x327004_4 x327005_4 x327006_4 from by repeat (first | (with_reducible first | exact HI326.out | apply IsS51.alloc | apply IsS51.drewN | apply IsS51.drew | apply IsS51.set_0 | apply IsS51.set_1 | apply IsS51.set_2 | apply IsS51.set_3 | apply IsS51.set_4 | apply IsS51.set_5 | apply IsS51.set_6) | exact HI326.out))) : g326 ≠ gb394)); have n7_ := Aside0.mk ((by rw [hg]; exact Nat.ne_of_gt (IsS51.lt (show IsS51 w _ g326 x327000_4 x327001_4 x327002_4 x327003_4 x327004_4 x327005_4 x327006_4 from by repeat (first | (with_reducible first | exact HI326.out | apply IsS51.alloc | apply IsS51.drewN | apply IsS51.drew | apply IsS51.set_0 | apply IsS51.set_1 | apply IsS51.set_2 | apply IsS51.set_3 | apply IsS51.set_4 | apply IsS51.set_5 | apply IsS51.set_6) | exact HI326.out))) : gb394 ≠ g326)); have n8_ := Aside0.mk ((by rw [hg]; exact Nat.ne_of_lt (IsS51.lt (show IsS51 w _ g358 t387 t388 t389 t390 t391 t392 t393 from by repeat (first | (with_reducible first | exact HI358.out | apply IsS51.alloc | apply IsS51.drewN | apply IsS51.drew | apply IsS51.set_0 | apply IsS51.set_1 | apply IsS51.set_2 | apply IsS51.set_3 | apply IsS51.set_4 | apply IsS51.set_5 | apply IsS51.set_6) | exact HI358.out))) : g358 ≠ gb394)); have n9_ := Aside0.mk ((by rw [hg]; exact Nat.ne_of_gt (IsS51.lt (show IsS51 w _ g358 t387 t388 t389 t390 t391 t392 t393 from by repeat (first | (with_reducible first | exact HI358.out | apply IsS51.alloc | apply IsS51.drewN | apply IsS51.drew | apply IsS51.set_0 | apply IsS51.set_1 | apply IsS51.set_2 | apply IsS51.set_3 | apply IsS51.set_4 | apply IsS51.set_5 | apply IsS51.set_6) | exact HI358.out))) : gb394 ≠ g358)); clear HI326; clear HI358; clear HB; have HI326 := n0_; have HI358 := n1_; have HB := n2_; have BK394 := n3_; have GW394 := n4_; have GE394 := n5_; have NB326_394 := n6_; have NB394_326 := n7_; have NB358_394 := n8_; have NB394_358 := n9_; clear n0_ n1_ n2_ n3_ n4_ n5_ n6_ n7_ n8_ n9_; clear hb hbox hg; have hnb52 := NB394_326.out; have hnc52 := NB326_394.out; have hnb53 := NB394_358.out; have hnc53 := NB358_394.out; have hcz54_0 : w51.cell? ⟨gb394, 0, none⟩ = some (.int .i64 0) := (blk_cell BK394.out 0).trans rfl; have hcz54_1 : w51.cell? ⟨gb394, 1, none⟩ = some (.int .i64 0) := (blk_cell BK394.out 1).trans rfl; have hfz54_0 := blk_frozen BK394.out 0; have hfz54_1 := blk_frozen BK394.out 1))
                                    have n0_ : Aside0 (((w51.setCell ⟨gb394, 0, none⟩ (.int .i64 t384)).setCell ⟨gb394, 1, none⟩ (.int .i64 t385)).heap[gb394]? = some (.cells #[.int .i64 t384, .int .i64 t385] 33 (0, 0))) := ⟨by (with_reducible repeat (first | refine blk_drewN ?_ _ | refine blk_drew ?_ | refine blk_alloc ?_ _)); refine blk_put (cs := #[.int .i64 t384, .int .i64 0]) ?_ 1 _ rfl; (with_reducible repeat (first | refine blk_drewN ?_ _ | refine blk_drew ?_ | refine blk_alloc ?_ _)); refine blk_put (cs := #[.int .i64 0, .int .i64 0]) ?_ 0 _ rfl; (with_reducible repeat (first | refine blk_drewN ?_ _ | refine blk_drew ?_ | refine blk_alloc ?_ _)); exact BK394.out⟩
                                    have n1_ : Aside0 (IsS51 w ((w51.setCell ⟨gb394, 0, none⟩ (.int .i64 t384)).setCell ⟨gb394, 1, none⟩ (.int .i64 t385)) g326 x327000_4 x327001_4 x327002_4 x327003_4 x327004_4 x327005_4 x327006_4) := ⟨by repeat (first | (with_reducible first | exact HI326.out | apply IsS51.alloc | apply IsS51.drewN | apply IsS51.drew | apply IsS51.set_0 | apply IsS51.set_1 | apply IsS51.set_2 | apply IsS51.set_3 | apply IsS51.set_4 | apply IsS51.set_5 | apply IsS51.set_6 | refine IsS51.far ?_ NB326_394.out _) | exact HI326.out)⟩
                                    have n2_ : Aside0 (IsS51 w ((w51.setCell ⟨gb394, 0, none⟩ (.int .i64 t384)).setCell ⟨gb394, 1, none⟩ (.int .i64 t385)) g358 t387 t388 t389 t390 t391 t392 t393) := ⟨by repeat (first | (with_reducible first | exact HI358.out | apply IsS51.alloc | apply IsS51.drewN | apply IsS51.drew | apply IsS51.set_0 | apply IsS51.set_1 | apply IsS51.set_2 | apply IsS51.set_3 | apply IsS51.set_4 | apply IsS51.set_5 | apply IsS51.set_6 | refine IsS51.far ?_ NB358_394.out _) | exact HI358.out)⟩
                                    have n3_ : Aside0 (Below w.heap.size w ((w51.setCell ⟨gb394, 0, none⟩ (.int .i64 t384)).setCell ⟨gb394, 1, none⟩ (.int .i64 t385))) := ⟨by repeat (first | (with_reducible first | exact HB.out | apply below_alloc | apply pw_below_drewN | apply below_drew1 | refine below_set ?_ (IsS51.ge HI326.out) | refine below_set ?_ (IsS51.ge HI358.out) | refine below_set ?_ GE394.out) | exact HB.out)⟩
                                    (try clear BK394)
                                    (try clear HI326)
                                    (try clear HI358)
                                    (try clear HB)
                                    generalize ((w51.setCell ⟨gb394, 0, none⟩ (.int .i64 t384)).setCell ⟨gb394, 1, none⟩ (.int .i64 t385)) = w55 at n0_ n1_ n2_ n3_ ⊢
                                    have BK394 := n0_
                                    have HI326 := n1_
                                    have HI358 := n2_
                                    have HB := n3_
                                    clear n0_ n1_ n2_ n3_
                                    have n0_ := Aside0.mk (blk_drew BK394.out)
                                    have n1_ := Aside0.mk (IsS51.drew HI326.out)
                                    have n2_ := Aside0.mk (IsS51.drew HI358.out)
                                    have n3_ := Aside0.mk (below_drew1 HB.out)
                                    clear BK394
                                    clear HI326
                                    clear HI358
                                    clear HB
                                    have BK394 := n0_
                                    have HI326 := n1_
                                    have HI358 := n2_
                                    have HB := n3_
                                    clear n0_ n1_ n2_ n3_
                                    refine start_ (n := 8) (S := fun w' => True) (ds := []) #[false, false, false, false, false, false, false, false] (by kernel_rfl) rfl rfl trivial (fun hHeld => ?_); refine with_tabW scriptoriumlaw06_ClockAnew.tab15 scriptoriumlaw06_ClockAnew.bits15 (fun HT_ HW_ => ?_)
                                    generalize w55.drew = w56 at BK394 HI326 HI358 HB hHeld ⊢
                                    refine pure_ (i := 0) (N := some 71) (v := ?_) (a' := ?_) #[true, false, false, false, false, false, false, false] rfl rfl (any_of HT_.out (by kernel_rfl)) (fun _ _ _ h => h) (Or.inl ⟨by rfl, ?_⟩) ?_ ?_
                                    rotate_left
                                    · intro w'
                                      go_simp
                                      with_reducible rfl
                                    rotate_left
                                    · simp only [Act.put, List.setIfInBounds_toArray, List.set_cons_zero, List.set_cons_succ, i64_w, i32_w]
                                      rfl
                                    refine pure_ (i := 1) (N := some 72) (v := ?_) (a' := ?_) #[true, true, false, false, false, false, false, false] rfl rfl (any_of HT_.out (by kernel_rfl)) (fun _ _ _ h => h) (Or.inl ⟨by rfl, ?_⟩) ?_ ?_
                                    rotate_left
                                    · intro w'
                                      go_simp
                                      with_reducible rfl
                                    rotate_left
                                    · simp only [Act.put, List.setIfInBounds_toArray, List.set_cons_zero, List.set_cons_succ, i64_w, i32_w]
                                      rfl
                                    refine pure_ (i := 2) (N := some 73) (v := undef) (a' := ?_) #[true, true, true, false, false, false, false, false] rfl rfl (any_of HT_.out (by kernel_rfl)) (fun _ _ _ h => h) (Or.inr ⟨by rfl, rfl⟩) ?_ ?_
                                    rotate_left
                                    · simp only [Act.put, List.setIfInBounds_toArray, List.set_cons_zero, List.set_cons_succ, i64_w, i32_w]
                                      rfl
                                    refine pure_ (i := 3) (N := some 74) (v := undef) (a' := ?_) #[true, true, true, true, false, false, false, false] rfl rfl (any_of HT_.out (by kernel_rfl)) (fun _ _ _ h => h) (Or.inr ⟨by rfl, rfl⟩) ?_ ?_
                                    rotate_left
                                    · simp only [Act.put, List.setIfInBounds_toArray, List.set_cons_zero, List.set_cons_succ, i64_w, i32_w]
                                      rfl
                                    refine pure_ (i := 4) (N := some 75) (v := undef) (a' := ?_) #[true, true, true, true, true, false, false, false] rfl rfl (any_of HT_.out (by kernel_rfl)) (fun _ _ _ h => h) (Or.inr ⟨by rfl, rfl⟩) ?_ ?_
                                    rotate_left
                                    · simp only [Act.put, List.setIfInBounds_toArray, List.set_cons_zero, List.set_cons_succ, i64_w, i32_w]
                                      rfl
                                    refine pure_ (i := 5) (N := some 76) (v := undef) (a' := ?_) #[true, true, true, true, true, true, false, false] rfl rfl (any_of HT_.out (by kernel_rfl)) (fun _ _ _ h => h) (Or.inr ⟨by rfl, rfl⟩) ?_ ?_
                                    rotate_left
                                    · simp only [Act.put, List.setIfInBounds_toArray, List.set_cons_zero, List.set_cons_succ, i64_w, i32_w]
                                      rfl
                                    refine pure_ (i := 6) (N := some 77) (v := undef) (a' := ?_) #[true, true, true, true, true, true, true, false] rfl rfl (any_of HT_.out (by kernel_rfl)) (fun _ _ _ h => h) (Or.inr ⟨by rfl, rfl⟩) ?_ ?_
                                    rotate_left
                                    · simp only [Act.put, List.setIfInBounds_toArray, List.set_cons_zero, List.set_cons_succ, i64_w, i32_w]
                                      rfl
                                    refine pure_ (i := 7) (N := some 78) (v := ?_) (a' := ?_) #[true, true, true, true, true, true, true, true] rfl rfl (any_of HT_.out (by kernel_rfl)) (fun _ _ _ h => h) (Or.inl ⟨by rfl, ?_⟩) ?_ ?_
                                    rotate_left
                                    · intro w'
                                      go_simp
                                      with_reducible rfl
                                    rotate_left
                                    · simp only [Act.put, List.setIfInBounds_toArray, List.set_cons_zero, List.set_cons_succ, i64_w, i32_w]
                                      rfl
                                    refine done_ (done_of HT_.out (by kernel_rfl)) ?_
                                    try go_wp2
                                    go_roundg kj27
                                    case measure => have := HK1.out; have := HJ5.out; have := HJ16.out; have := HK4.out; have := HJ27.out; omega
                                    case rel => exact ⟨(wrap64 (x10_4 + 1)), (x327000_4), (x327001_4), (x327002_4), (x327003_4), (x327004_4), (x327005_4), (x327006_4), (t387), (t388), (t389), (t390), (t391), (t392), (t393), (by first | rfl | (simp; done) | (simp [*]; done)), H', ⟨by have := HK1.out; have := HJ5.out; have := HJ16.out; have := HK4.out; have := HJ27.out; omega⟩, ⟨by repeat (first | (with_reducible first | exact HI326.out | apply IsS51.alloc | apply IsS51.drewN | apply IsS51.drew | apply IsS51.set_0 | apply IsS51.set_1 | apply IsS51.set_2 | apply IsS51.set_3 | apply IsS51.set_4 | apply IsS51.set_5 | apply IsS51.set_6 | refine IsS51.far ?_ NB326_394.out _) | exact HI326.out)⟩, ⟨by repeat (first | (with_reducible first | exact HI358.out | apply IsS51.alloc | apply IsS51.drewN | apply IsS51.drew | apply IsS51.set_0 | apply IsS51.set_1 | apply IsS51.set_2 | apply IsS51.set_3 | apply IsS51.set_4 | apply IsS51.set_5 | apply IsS51.set_6 | refine IsS51.far ?_ NB358_394.out _) | exact HI358.out)⟩, ⟨by repeat (first | (with_reducible first | exact HB.out | apply below_alloc | apply pw_below_drewN | apply below_drew1 | refine below_set ?_ (IsS51.ge HI326.out) | refine below_set ?_ (IsS51.ge HI358.out) | refine below_set ?_ GE394.out) | exact HB.out)⟩⟩
                                · rw [if_neg c32] at H
                                  exact absurd H (by simp)
                              · rw [if_neg c31] at H
                                exact absurd H (by simp)
                            · replace c30 := Bool.eq_false_iff.mpr c30
                              subst c30
                              have H1 : ((clock_Clock_Ready.f x359000_4 x359001_4 x359002_4 x359003_4 x359004_4 x359005_4 x359006_4).bind fun bt405 => ((clock_Clock_Reading.f bt405.2.1 bt405.2.2.1 bt405.2.2.2.1 bt405.2.2.2.2.1 bt405.2.2.2.2.2.1 bt405.2.2.2.2.2.2.1 bt405.2.2.2.2.2.2.2).bind fun bt413 => ((clock_Clock_Bound.f x327000_4 x327001_4 x327002_4 x327003_4 x327004_4 x327005_4 x327006_4).bind fun bt421 => (if (bt405.1 == (decide (bt413.1 ≥ bt421.1))) = true then ((scriptoriumlaw06_awake.f kj27).bind fun t429 => (some t429)) else (some false))))) = some r := by rw [if_neg (show ¬ (false = true) by decide)] at H; exact H
                              clear H
                              have H := H1
                              clear H1
                              replace H := Option.bind_eq_some_iff.mp H
                              obtain ⟨⟨t405, t406, t407, t408, t409, t410, t411, t412⟩, A570, H⟩ := H
                              replace H : ((clock_Clock_Reading.f t406 t407 t408 t409 t410 t411 t412).bind fun bt413 => ((clock_Clock_Bound.f x327000_4 x327001_4 x327002_4 x327003_4 x327004_4 x327005_4 x327006_4).bind fun bt421 => (if (t405 == (decide (bt413.1 ≥ bt421.1))) = true then ((scriptoriumlaw06_awake.f kj27).bind fun t429 => (some t429)) else (some false)))) = some r := H
                              have A57 := Aside0.mk A570
                              clear A570
                              replace H := Option.bind_eq_some_iff.mp H
                              obtain ⟨⟨t413, t414, t415, t416, t417, t418, t419, t420⟩, A580, H⟩ := H
                              replace H : ((clock_Clock_Bound.f x327000_4 x327001_4 x327002_4 x327003_4 x327004_4 x327005_4 x327006_4).bind fun bt421 => (if (t405 == (decide (t413 ≥ bt421.1))) = true then ((scriptoriumlaw06_awake.f kj27).bind fun t429 => (some t429)) else (some false))) = some r := H
                              have A58 := Aside0.mk A580
                              clear A580
                              replace H := Option.bind_eq_some_iff.mp H
                              obtain ⟨⟨t421, t422, t423, t424, t425, t426, t427, t428⟩, A590, H⟩ := H
                              replace H : (if (t405 == (decide (t413 ≥ t421))) = true then ((scriptoriumlaw06_awake.f kj27).bind fun t429 => (some t429)) else (some false)) = some r := H
                              have A59 := Aside0.mk A590
                              clear A590
                              by_cases c60 : (t405 == (decide (t413 ≥ t421))) = true
                              · rw [if_pos c60] at H
                                have c60b0 : (t405 == (decide (t413 ≥ t421))) = true := c60
                                (try (have c60b1 : decide (t405 = (decide (t413 ≥ t421))) = true := by simpa using c60))
                                (try (have c60b2 : (t405 == (decide (t413 ≥ t421))) = true := by simpa using c60))
                                clear c60
                                replace H := Option.bind_eq_some_iff.mp H
                                obtain ⟨t429, A610, H⟩ := H
                                replace H : (some t429) = some r := H
                                have A61 := Aside0.mk A610
                                clear A610
                                obtain rfl := Option.some.inj H
                                go_wp2_with (first | ((with_reducible refine gate_callee (f := 19) rfl ?_); refine goesL_ (some 80) rfl rfl Try.func19 (by kernel_rfl) rfl #[.pointer (some ⟨g358, 0, none⟩)] rfl (by (try simp only [List.map_toArray, List.map_cons, List.map_nil]); first | done | rfl | (simp only [List.length_drop, List.length_take]; rfl)) ?_; (with_reducible refine (clock_Clock_Ready.calls g358 x359000_4 x359001_4 x359002_4 x359003_4 x359004_4 x359005_4 x359006_4 t405 t406 t407 t408 t409 t410 t411 t412 w _ ?side1 ?side2 A57.out).mono ?_); (case side1 => repeat (first | (with_reducible first | exact HI358.out | apply IsS51.alloc | apply IsS51.drewN | apply IsS51.drew | apply IsS51.set_0 | apply IsS51.set_1 | apply IsS51.set_2 | apply IsS51.set_3 | apply IsS51.set_4 | apply IsS51.set_5 | apply IsS51.set_6) | exact HI358.out)); (case side2 => repeat (first | (with_reducible first | exact HB.out | apply below_alloc | apply pw_below_drewN | apply below_drew1 | refine below_set ?_ (IsS51.ge HI326.out) | refine below_set ?_ (IsS51.ge HI358.out)) | exact HB.out)); rintro e w62 ⟨rfl, hi, hb, hk⟩; refine ⟨_, rfl, ?_⟩; have n0_ := Aside0.mk (IsS51.keepB (by repeat (first | (with_reducible first | exact HI326.out | apply IsS51.alloc | apply IsS51.drewN | apply IsS51.drew | apply IsS51.set_0 | apply IsS51.set_1 | apply IsS51.set_2 | apply IsS51.set_3 | apply IsS51.set_4 | apply IsS51.set_5 | apply IsS51.set_6) | exact HI326.out)) hk NB326_358.out); have n1_ := Aside0.mk (hb); have n2_ := Aside0.mk (hi); clear HI326; clear HB; clear HI358; have HI326 := n0_; have HB := n1_; have HI358 := n2_; clear n0_ n1_ n2_; (try clear hb); (try clear hb2); (try clear hk); (try clear hi); (try clear hgn)) | ((with_reducible refine gate_callee (f := 13) rfl ?_); refine goesL_ (some 82) rfl rfl Try.func13 (by kernel_rfl) rfl #[.pointer (some ⟨g358, 0, none⟩)] rfl (by (try simp only [List.map_toArray, List.map_cons, List.map_nil]); first | done | rfl | (simp only [List.length_drop, List.length_take]; rfl)) ?_; (with_reducible refine (clock_Clock_Reading.calls g358 t406 t407 t408 t409 t410 t411 t412 t413 t414 t415 t416 t417 t418 t419 t420 w _ ?side1 ?side2 A58.out).mono ?_); (case side1 => repeat (first | (with_reducible first | exact HI358.out | apply IsS51.alloc | apply IsS51.drewN | apply IsS51.drew | apply IsS51.set_0 | apply IsS51.set_1 | apply IsS51.set_2 | apply IsS51.set_3 | apply IsS51.set_4 | apply IsS51.set_5 | apply IsS51.set_6) | exact HI358.out)); (case side2 => repeat (first | (with_reducible first | exact HB.out | apply below_alloc | apply pw_below_drewN | apply below_drew1 | refine below_set ?_ (IsS51.ge HI326.out) | refine below_set ?_ (IsS51.ge HI358.out)) | exact HB.out)); rintro e w63 ⟨rfl, hi, hb, hk⟩; refine ⟨_, rfl, ?_⟩; have n0_ := Aside0.mk (IsS51.keepB (by repeat (first | (with_reducible first | exact HI326.out | apply IsS51.alloc | apply IsS51.drewN | apply IsS51.drew | apply IsS51.set_0 | apply IsS51.set_1 | apply IsS51.set_2 | apply IsS51.set_3 | apply IsS51.set_4 | apply IsS51.set_5 | apply IsS51.set_6) | exact HI326.out)) hk NB326_358.out); have n1_ := Aside0.mk (hb); have n2_ := Aside0.mk (hi); clear HI326; clear HB; clear HI358; have HI326 := n0_; have HB := n1_; have HI358 := n2_; clear n0_ n1_ n2_; (try clear hb); (try clear hb2); (try clear hk); (try clear hi); (try clear hgn)) | ((with_reducible refine gate_callee (f := 22) rfl ?_); refine goesL_ (some 84) rfl rfl Try.func22 (by kernel_rfl) rfl #[.pointer (some ⟨g326, 0, none⟩)] rfl (by (try simp only [List.map_toArray, List.map_cons, List.map_nil]); first | done | rfl | (simp only [List.length_drop, List.length_take]; rfl)) ?_; (with_reducible refine (clock_Clock_Bound.calls g326 x327000_4 x327001_4 x327002_4 x327003_4 x327004_4 x327005_4 x327006_4 t421 t422 t423 t424 t425 t426 t427 t428 w _ ?side1 ?side2 A59.out).mono ?_); (case side1 => repeat (first | (with_reducible first | exact HI326.out | apply IsS51.alloc | apply IsS51.drewN | apply IsS51.drew | apply IsS51.set_0 | apply IsS51.set_1 | apply IsS51.set_2 | apply IsS51.set_3 | apply IsS51.set_4 | apply IsS51.set_5 | apply IsS51.set_6) | exact HI326.out)); (case side2 => repeat (first | (with_reducible first | exact HB.out | apply below_alloc | apply pw_below_drewN | apply below_drew1 | refine below_set ?_ (IsS51.ge HI326.out) | refine below_set ?_ (IsS51.ge HI358.out)) | exact HB.out)); rintro e w64 ⟨rfl, hi, hb, hk⟩; refine ⟨_, rfl, ?_⟩; have n0_ := Aside0.mk (IsS51.keepB (by repeat (first | (with_reducible first | exact HI358.out | apply IsS51.alloc | apply IsS51.drewN | apply IsS51.drew | apply IsS51.set_0 | apply IsS51.set_1 | apply IsS51.set_2 | apply IsS51.set_3 | apply IsS51.set_4 | apply IsS51.set_5 | apply IsS51.set_6) | exact HI358.out)) hk NB358_326.out); have n1_ := Aside0.mk (hb); have n2_ := Aside0.mk (hi); clear HI358; clear HB; clear HI326; have HI358 := n0_; have HB := n1_; have HI326 := n2_; clear n0_ n1_ n2_; (try clear hb); (try clear hb2); (try clear hk); (try clear hi); (try clear hgn)) | (go_at_call 16; (with_reducible refine (scriptoriumlaw06_awake.calls kj27  t429 _ A61.out).mono ?_); rintro e w65 ⟨rfl, hb⟩; have n0_ := Aside0.mk (IsS51.below (by repeat (first | (with_reducible first | exact HI326.out | apply IsS51.alloc | apply IsS51.drewN | apply IsS51.drew | apply IsS51.set_0 | apply IsS51.set_1 | apply IsS51.set_2 | apply IsS51.set_3 | apply IsS51.set_4 | apply IsS51.set_5 | apply IsS51.set_6) | exact HI326.out)) hb); have n1_ := Aside0.mk (IsS51.below (by repeat (first | (with_reducible first | exact HI358.out | apply IsS51.alloc | apply IsS51.drewN | apply IsS51.drew | apply IsS51.set_0 | apply IsS51.set_1 | apply IsS51.set_2 | apply IsS51.set_3 | apply IsS51.set_4 | apply IsS51.set_5 | apply IsS51.set_6) | exact HI358.out)) hb); have n2_ := Aside0.mk (below_step (by repeat (first | (with_reducible first | exact HB.out | apply below_alloc | apply pw_below_drewN | apply below_drew1 | refine below_set ?_ (IsS51.ge HI326.out) | refine below_set ?_ (IsS51.ge HI358.out)) | exact HB.out)) hb); clear HI326; clear HI358; clear HB; have HI326 := n0_; have HI358 := n1_; have HB := n2_; clear n0_ n1_ n2_; (try clear hb); (try clear hb2); (try clear hk); (try clear hi); (try clear hgn)))
                                go_ret
                                exact ⟨by first | rfl | (simp [errW_none, errW_some] <;> rfl) | (simp [*, errW_none, errW_some] <;> rfl), by repeat (first | (with_reducible first | exact HB.out | apply below_alloc | apply pw_below_drewN | apply below_drew1 | refine below_set ?_ (IsS51.ge HI326.out) | refine below_set ?_ (IsS51.ge HI358.out)) | exact HB.out)⟩
                              · rw [if_neg c60] at H
                                have c60b0 : (t405 == (decide (t413 ≥ t421))) = false := by simpa using c60
                                (try (have c60b1 : decide (t405 = (decide (t413 ≥ t421))) = false := by simpa using c60))
                                (try (have c60b2 : (t405 == (decide (t413 ≥ t421))) = false := by simpa using c60))
                                (try (have c60b3 : ¬ (t405 = (decide (t413 ≥ t421))) := by simpa using c60))
                                clear c60
                                exact absurd (Option.some.inj (H.trans (congrArg some hrt))) (by decide)
  · rw [if_neg c4] at H
    have c4b0 : (t327 == 0) = false := beq_eq_false_iff_ne.mpr c4
    have c4b1 : (t327 != 0) = true := bne_iff_ne.mpr c4
    exact absurd (Option.some.inj (H.trans (congrArg some hrt))) (by decide)

/-- THE ONE PURE STATEMENT of scriptoriumlaw06_ClockAnew: yours. -/
def scriptoriumlaw06_ClockAnew.Pure : Prop := ∀ (a0 : List (S45)) (a1 : List (S45)), (a0.length ≤ maxLen ∧ a0.length * 32 ≤ 140737488351232 ∧ ∀ y0 ∈ a0, ((Lit.int .i64 y0.f0).wf = true ∧ (Lit.int .i64 y0.f1).wf = true ∧ ((Lit.int .i64 y0.f2.f0).wf = true ∧ (Lit.int .i64 y0.f2.f1).wf = true))) → (a1.length ≤ maxLen ∧ a1.length * 32 ≤ 140737488351232 ∧ ∀ y0 ∈ a1, ((Lit.int .i64 y0.f0).wf = true ∧ (Lit.int .i64 y0.f1).wf = true ∧ ((Lit.int .i64 y0.f2.f0).wf = true ∧ (Lit.int .i64 y0.f2.f1).wf = true))) → ∃ k, scriptoriumlaw06_ClockAnew.f k a0 a1 = some true
theorem scriptoriumlaw06_ClockAnew.walk (P : scriptoriumlaw06_ClockAnew.Pure) (a0 : List (S45)) (a1 : List (S45)) (A0 : Option Addr) (c0 : Nat) (A1 : Option Addr) (c1 : Nat) (w : World) (w0 : (a0.length ≤ maxLen ∧ a0.length * 32 ≤ 140737488351232 ∧ ∀ y0 ∈ a0, ((Lit.int .i64 y0.f0).wf = true ∧ (Lit.int .i64 y0.f1).wf = true ∧ ((Lit.int .i64 y0.f2.f0).wf = true ∧ (Lit.int .i64 y0.f2.f1).wf = true)))) (w1 : (a1.length ≤ maxLen ∧ a1.length * 32 ≤ 140737488351232 ∧ ∀ y0 ∈ a1, ((Lit.int .i64 y0.f0).wf = true ∧ (Lit.int .i64 y0.f1).wf = true ∧ ((Lit.int .i64 y0.f2.f0).wf = true ∧ (Lit.int .i64 y0.f2.f1).wf = true)))) (hr0 : Kd.C k45 w A0 a0.length a0) (hc0 : a0.length ≤ c0) (hr1 : Kd.C k45 w A1 a1.length a1) (hc1 : a1.length ≤ c1) :
    Calls Try.prog 8 #[.slice A0 a0.length c0, .slice A1 a1.length c1] w fun e w' => e = .returned (.bool true) ∧ Below w.heap.size w w' := by
  obtain ⟨k, h⟩ := P a0 a1 w0 w1
  refine (scriptoriumlaw06_ClockAnew.calls k A0 c0 a0 A1 c1 a1 true w hr0 hc0 hr1 hc1 h rfl).mono ?_
  rintro e w' ⟨rfl, hd⟩
  exact ⟨rfl, hd⟩

end Go.Proofs.Ythhgoiabkgfdfaa.PClockAnew
