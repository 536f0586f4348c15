/- Written by xprint.py, a program of these sessions (over the print of the kit, with leaves typed by hand): one Lean function for each Go function, and the proof that the Go code comes to its answers. -/
import Derived.Test.YthhgoiabkgfdfaaPClockStaysx0
import Derived.Test.YthhgoiabkgfdfaaPClockStaysx1
import Derived.Test.YthhgoiabkgfdfaaPClockStaysx2
import Derived.Test.YthhgoiabkgfdfaaPClockStaysx3
import Derived.Test.YthhgoiabkgfdfaaPClockStaysx5
namespace Go.Proofs.Ythhgoiabkgfdfaa.PClockStays
open Go.RowKit Go.Proofs.YthhgoiabkgfdfaaW.PrintWords Go.Proofs.YthhgoiabkgfdfaaW.PrintLast Go.Proofs.YthhgoiabkgfdfaaW.PrintMore
attribute [local go_sem] max2_int min2_int max_two min_two max_three min_three max_four min_four   -- for this text's walks alone
attribute [local go_sem] fld_wall fld_logic
set_option linter.unusedVariables false
set_option linter.unusedSimpArgs false

attribute [local go_sem high] eqA33
/-! ### scriptoriumlaw06_ClockStays: function 5 -/
mutual
def scriptoriumlaw06_ClockStays.l0 : Nat → List (S45) → Int → Int → Int → Int → Int → Int → Int → Bool → Option (Bool)
  | 0, _, _, _, _, _, _, _, _, _ => none
  | k + 1, x2, x9, x283000, x283001, x283002, x283003, x283004, x283005, x283006 => if x9 < (x2.length : Int) then (scriptoriumlaw06_ClockStays.j1 k x2 x9 (decide (x9 < 100)) x283000 x283001 x283002 x283003 x283004 x283005 x283006) else (scriptoriumlaw06_ClockStays.j1 k x2 x9 false x283000 x283001 x283002 x283003 x283004 x283005 x283006)
def scriptoriumlaw06_ClockStays.j1 : Nat → List (S45) → Int → Bool → Int → Int → Int → Int → Int → Int → Bool → Option (Bool)
  | 0, _, _, _, _, _, _, _, _, _, _ => none
  | k + 1, x2, x9, x31, x283000, x283001, x283002, x283003, x283004, x283005, x283006 => if x31 = true then ((clock_Clock_Reading.f x283000 x283001 x283002 x283003 x283004 x283005 x283006).bind fun bt285 => ((clock_Clock_Last.f bt285.2.1 bt285.2.2.1 bt285.2.2.2.1 bt285.2.2.2.2.1 bt285.2.2.2.2.2.1 bt285.2.2.2.2.2.2.1 bt285.2.2.2.2.2.2.2).bind fun bt293 => ((clock_Clock_Bound.f bt293.2.2.1 bt293.2.2.2.1 bt293.2.2.2.2.1 bt293.2.2.2.2.2.1 bt293.2.2.2.2.2.2.1 bt293.2.2.2.2.2.2.2.1 bt293.2.2.2.2.2.2.2.2).bind fun bt302 => (if 0 ≤ x9 then (if x9 < (x2.length : Int) then ((scriptoriumref00_Bring.f ((rd_T45 x2 x9).f0) 4).bind fun t312 => (if t312 = 0 then ((clock_Clock_Set.f bt302.2.1 bt302.2.2.1 bt302.2.2.2.1 bt302.2.2.2.2.1 bt302.2.2.2.2.2.1 bt302.2.2.2.2.2.2.1 bt302.2.2.2.2.2.2.2 ((rd_T45 x2 x9).f1)).bind fun bt314 => (scriptoriumlaw06_ClockStays.j2 k x2 x9 bt285.1 bt302.1 bt314.1 bt314.2.1 bt314.2.2.1 bt314.2.2.2.1 bt314.2.2.2.2.1 bt314.2.2.2.2.2.1 bt314.2.2.2.2.2.2.1 bt314.2.2.2.2.2.2.2 bt293.1 bt293.2.1)) else (if t312 = 1 then ((clock_Clock_Raise.f bt302.2.1 bt302.2.2.1 bt302.2.2.2.1 bt302.2.2.2.2.1 bt302.2.2.2.2.2.1 bt302.2.2.2.2.2.2.1 bt302.2.2.2.2.2.2.2 ((rd_T45 x2 x9).f1)).bind fun bt323 => (scriptoriumlaw06_ClockStays.j2 k x2 x9 bt285.1 bt302.1 bt323.1 bt323.2.1 bt323.2.2.1 bt323.2.2.2.1 bt323.2.2.2.2.1 bt323.2.2.2.2.2.1 bt323.2.2.2.2.2.2.1 bt323.2.2.2.2.2.2.2 bt293.1 bt293.2.1)) else (if t312 = 2 then ((clock_Clock_Now.f bt302.2.1 bt302.2.2.1 bt302.2.2.2.1 bt302.2.2.2.2.1 bt302.2.2.2.2.2.1 bt302.2.2.2.2.2.2.1 bt302.2.2.2.2.2.2.2).bind fun bt331 => (scriptoriumlaw06_ClockStays.j2 k x2 x9 bt285.1 bt302.1 bt331.2.2.1 bt331.2.2.2.1 bt331.2.2.2.2.1 bt331.2.2.2.2.2.1 bt331.2.2.2.2.2.2.1 bt331.2.2.2.2.2.2.2.1 bt331.2.2.2.2.2.2.2.2.1 bt331.2.2.2.2.2.2.2.2.2 bt293.1 bt293.2.1)) else ((clock_Clock_See.f bt302.2.1 bt302.2.2.1 bt302.2.2.2.1 bt302.2.2.2.2.1 bt302.2.2.2.2.2.1 bt302.2.2.2.2.2.2.1 bt302.2.2.2.2.2.2.2 ((rd_T45 x2 x9).f2.f0) ((rd_T45 x2 x9).f2.f1)).bind fun bt342 => (scriptoriumlaw06_ClockStays.j2 k x2 x9 bt285.1 bt302.1 bt342.1 bt342.2.1 bt342.2.2.1 bt342.2.2.2.1 bt342.2.2.2.2.1 bt342.2.2.2.2.2.1 bt342.2.2.2.2.2.2.1 bt342.2.2.2.2.2.2.2 bt293.1 bt293.2.1)))))) else (none)) else (none))))) else ((scriptoriumlaw06_awake.f k).bind fun t284 => (some t284))
def scriptoriumlaw06_ClockStays.j2 : Nat → List (S45) → Int → Int → Int → Int → Int → Int → Int → Int → Int → Int → Bool → Int → Int → Option (Bool)
  | 0, _, _, _, _, _, _, _, _, _, _, _, _, _, _ => none
  | k + 1, x2, x9, x10, x12, x13, x283000, x283001, x283002, x283003, x283004, x283005, x283006, x311000, x311001 => if x13 = 0 then (scriptoriumlaw06_ClockStays.l0 k x2 (wrap64 (x9 + 1)) x283000 x283001 x283002 x283003 x283004 x283005 x283006) else ((clock_Clock_Reading.f x283000 x283001 x283002 x283003 x283004 x283005 x283006).bind fun bt350 => (if bt350.1 = x10 then ((clock_Clock_Last.f bt350.2.1 bt350.2.2.1 bt350.2.2.2.1 bt350.2.2.2.2.1 bt350.2.2.2.2.2.1 bt350.2.2.2.2.2.2.1 bt350.2.2.2.2.2.2.2).bind fun bt358 => (if (!(bt358.1 == x311000) || (!(bt358.2.1 == x311001))) = true then (some false) else ((clock_Clock_Bound.f bt358.2.2.1 bt358.2.2.2.1 bt358.2.2.2.2.1 bt358.2.2.2.2.2.1 bt358.2.2.2.2.2.2.1 bt358.2.2.2.2.2.2.2.1 bt358.2.2.2.2.2.2.2.2).bind fun bt367 => (if bt367.1 = x12 then (scriptoriumlaw06_ClockStays.l0 k x2 (wrap64 (x9 + 1)) bt367.2.1 bt367.2.2.1 bt367.2.2.2.1 bt367.2.2.2.2.1 bt367.2.2.2.2.2.1 bt367.2.2.2.2.2.2.1 bt367.2.2.2.2.2.2.2) else (some false))))) else (some false)))
end
def scriptoriumlaw06_ClockStays.f (k : Nat) (a0 : Int) (a1 : Int) (l2 : List (S45)) : Option (Bool) := (scriptoriumref00_Bring.f a0 500).bind fun t273 => ((scriptoriumref00_Bring.f a1 500).bind fun t274 => ((clock_New.f t273 t274).bind fun bt275 => (if bt275.2.2.2.2.2.2.2 = 0 then (scriptoriumlaw06_ClockStays.l0 k l2 0 bt275.1 bt275.2.1 bt275.2.2.1 bt275.2.2.2.1 bt275.2.2.2.2.1 bt275.2.2.2.2.2.1 bt275.2.2.2.2.2.2.1) else (some false))))
theorem scriptoriumlaw06_ClockStays.mono_l : ∀ k, (∀ y0 y1 y2 y3 y4 y5 y6 y7 y8, LeO (scriptoriumlaw06_ClockStays.l0 k y0 y1 y2 y3 y4 y5 y6 y7 y8) (scriptoriumlaw06_ClockStays.l0 (k + 1) y0 y1 y2 y3 y4 y5 y6 y7 y8)) ∧ (∀ y0 y1 y2 y3 y4 y5 y6 y7 y8 y9, LeO (scriptoriumlaw06_ClockStays.j1 k y0 y1 y2 y3 y4 y5 y6 y7 y8 y9) (scriptoriumlaw06_ClockStays.j1 (k + 1) y0 y1 y2 y3 y4 y5 y6 y7 y8 y9)) ∧ (∀ y0 y1 y2 y3 y4 y5 y6 y7 y8 y9 y10 y11 y12 y13, LeO (scriptoriumlaw06_ClockStays.j2 k y0 y1 y2 y3 y4 y5 y6 y7 y8 y9 y10 y11 y12 y13) (scriptoriumlaw06_ClockStays.j2 (k + 1) y0 y1 y2 y3 y4 y5 y6 y7 y8 y9 y10 y11 y12 y13))
  | 0 => ⟨fun _ _ _ _ _ _ _ _ _ r h => by simp [scriptoriumlaw06_ClockStays.l0] at h, fun _ _ _ _ _ _ _ _ _ _ r h => by simp [scriptoriumlaw06_ClockStays.j1] at h, fun _ _ _ _ _ _ _ _ _ _ _ _ _ _ r h => by simp [scriptoriumlaw06_ClockStays.j2] at h⟩
  | k + 1 => by
    obtain ⟨ih0, ih1, ih2⟩ := scriptoriumlaw06_ClockStays.mono_l k
    refine ⟨?_, ?_, ?_⟩
    · intro y0 y1 y2 y3 y4 y5 y6 y7 y8
      unfold scriptoriumlaw06_ClockStays.l0
      repeat' first
      | (with_reducible exact ih0 _ _ _ _ _ _ _ _ _)
      | (with_reducible exact ih1 _ _ _ _ _ _ _ _ _ _)
      | (with_reducible exact ih2 _ _ _ _ _ _ _ _ _ _ _ _ _ _)
      | (with_reducible exact scriptoriumlaw06_awake.mono _)
      | (with_reducible exact LeO.refl _)
      | (with_reducible exact LeO.none _)
      | (with_reducible refine LeO.ite ?_ ?_)
      | (with_reducible refine LeO.bind ?_ (fun _ => ?_))
      | exact ih0 _ _ _ _ _ _ _ _ _
      | exact ih1 _ _ _ _ _ _ _ _ _ _
      | exact ih2 _ _ _ _ _ _ _ _ _ _ _ _ _ _
      | exact scriptoriumlaw06_awake.mono _
      | exact LeO.none _
      | refine LeO.ite ?_ ?_
      | refine LeO.bind ?_ (fun _ => ?_)
    · intro y0 y1 y2 y3 y4 y5 y6 y7 y8 y9
      unfold scriptoriumlaw06_ClockStays.j1
      repeat' first
      | (with_reducible exact ih0 _ _ _ _ _ _ _ _ _)
      | (with_reducible exact ih1 _ _ _ _ _ _ _ _ _ _)
      | (with_reducible exact ih2 _ _ _ _ _ _ _ _ _ _ _ _ _ _)
      | (with_reducible exact scriptoriumlaw06_awake.mono _)
      | (with_reducible exact LeO.refl _)
      | (with_reducible exact LeO.none _)
      | (with_reducible refine LeO.ite ?_ ?_)
      | (with_reducible refine LeO.bind ?_ (fun _ => ?_))
      | exact ih0 _ _ _ _ _ _ _ _ _
      | exact ih1 _ _ _ _ _ _ _ _ _ _
      | exact ih2 _ _ _ _ _ _ _ _ _ _ _ _ _ _
      | exact scriptoriumlaw06_awake.mono _
      | exact LeO.none _
      | refine LeO.ite ?_ ?_
      | refine LeO.bind ?_ (fun _ => ?_)
    · intro y0 y1 y2 y3 y4 y5 y6 y7 y8 y9 y10 y11 y12 y13
      unfold scriptoriumlaw06_ClockStays.j2
      repeat' first
      | (with_reducible exact ih0 _ _ _ _ _ _ _ _ _)
      | (with_reducible exact ih1 _ _ _ _ _ _ _ _ _ _)
      | (with_reducible exact ih2 _ _ _ _ _ _ _ _ _ _ _ _ _ _)
      | (with_reducible exact scriptoriumlaw06_awake.mono _)
      | (with_reducible exact LeO.refl _)
      | (with_reducible exact LeO.none _)
      | (with_reducible refine LeO.ite ?_ ?_)
      | (with_reducible refine LeO.bind ?_ (fun _ => ?_))
      | exact ih0 _ _ _ _ _ _ _ _ _
      | exact ih1 _ _ _ _ _ _ _ _ _ _
      | exact ih2 _ _ _ _ _ _ _ _ _ _ _ _ _ _
      | exact scriptoriumlaw06_awake.mono _
      | exact LeO.none _
      | refine LeO.ite ?_ ?_
      | refine LeO.bind ?_ (fun _ => ?_)
theorem scriptoriumlaw06_ClockStays.mono : ∀ a0 a1 a2 k, LeO (scriptoriumlaw06_ClockStays.f k a0 a1 a2) (scriptoriumlaw06_ClockStays.f (k + 1) a0 a1 a2) := by
  intro a0 a1 a2 k
  obtain ⟨ih0, ih1, ih2⟩ := scriptoriumlaw06_ClockStays.mono_l k
  unfold scriptoriumlaw06_ClockStays.f
  repeat' first
      | (with_reducible exact ih0 _ _ _ _ _ _ _ _ _)
      | (with_reducible exact ih1 _ _ _ _ _ _ _ _ _ _)
      | (with_reducible exact ih2 _ _ _ _ _ _ _ _ _ _ _ _ _ _)
      | (with_reducible exact scriptoriumlaw06_awake.mono _)
      | (with_reducible exact LeO.refl _)
      | (with_reducible exact LeO.none _)
      | (with_reducible refine LeO.ite ?_ ?_)
      | (with_reducible refine LeO.bind ?_ (fun _ => ?_))
      | exact ih0 _ _ _ _ _ _ _ _ _
      | exact ih1 _ _ _ _ _ _ _ _ _ _
      | exact ih2 _ _ _ _ _ _ _ _ _ _ _ _ _ _
      | exact scriptoriumlaw06_awake.mono _
      | exact LeO.none _
      | refine LeO.ite ?_ ?_
      | refine LeO.bind ?_ (fun _ => ?_)
def scriptoriumlaw06_ClockStays.T17 : Bool × List (List Nat × List Nat) := (true, [([], []), ([0], [0]), ([1], [1]), ([2], [2]), ([3, 2, 2], [2, 3]), ([2], [2]), ([4, 5, 2], [2, 4, 5]), ([6, 4, 2], [2, 6]), ([7], [7]), ([8, 7, 7], [7, 8]), ([7], [7]), ([9, 10, 7], [7, 9, 10]), ([7, 11, 2], [2, 7, 11]), ([12, 9, 2], [2, 12]), ([13], [13]), ([14, 13, 13], [13, 14]), ([13], [13]), ([15, 16, 13], [13, 15, 16]), ([13, 17, 2], [2, 13, 17]), ([2, 18], [2, 18])])
def scriptoriumlaw06_ClockStays.B17 : List Nat := [0, 1, 3, 7, 15, 7, 63, 127, 255, 511, 255, 2047, 4095, 8191, 16383, 32767, 16383, 131071, 262143, 524287]
theorem scriptoriumlaw06_ClockStays.tab17 : rtab .any (opsOf Try.f5 17) = scriptoriumlaw06_ClockStays.T17 := by kernel_rfl
theorem scriptoriumlaw06_ClockStays.bits17 : waitsOk scriptoriumlaw06_ClockStays.T17.2 scriptoriumlaw06_ClockStays.B17 = true := by kernel_rfl
set_option maxHeartbeats 8000000 in
set_option maxRecDepth 100000 in
theorem scriptoriumlaw06_ClockStays.calls (k : Nat) (a0 : Int) (a1 : Int) (A2 : Option Addr) (c2 : Nat) (l2 : List (S45)) (r : Bool) (w : World) (hr2 : Kd.C k45 w A2 l2.length l2) (hc2 : l2.length ≤ c2) (h : scriptoriumlaw06_ClockStays.f k a0 a1 l2 = some r) (hrt : r = true) :
    Calls Try.prog 5 #[.int .i64 a0, .int .i64 a1, .slice A2 l2.length c2] w fun e w' => e = .returned (.bool r) ∧ Below w.heap.size w w' := by
  have hu33 := Try.underlying33
  have HR2 := Aside0.mk hr2
  have HC2 := Aside0.mk hc2
  clear hr2 hc2
  have HB := Aside0.mk (Below.refl w.heap.size w)
  have H : ((scriptoriumref00_Bring.f a0 500).bind fun t273 => ((scriptoriumref00_Bring.f a1 500).bind fun t274 => ((clock_New.f t273 t274).bind fun bt275 => (if bt275.2.2.2.2.2.2.2 = 0 then (scriptoriumlaw06_ClockStays.l0 k l2 0 bt275.1 bt275.2.1 bt275.2.2.1 bt275.2.2.2.1 bt275.2.2.2.2.1 bt275.2.2.2.2.2.1 bt275.2.2.2.2.2.2.1) else (some false))))) = some r := h
  clear h
  replace H := Option.bind_eq_some_iff.mp H
  obtain ⟨t273, A40, H⟩ := H
  replace H : ((scriptoriumref00_Bring.f a1 500).bind fun t274 => ((clock_New.f t273 t274).bind fun bt275 => (if bt275.2.2.2.2.2.2.2 = 0 then (scriptoriumlaw06_ClockStays.l0 k l2 0 bt275.1 bt275.2.1 bt275.2.2.1 bt275.2.2.2.1 bt275.2.2.2.2.1 bt275.2.2.2.2.2.1 bt275.2.2.2.2.2.2.1) else (some false)))) = some r := H
  have A4 := Aside0.mk A40
  clear A40
  replace H := Option.bind_eq_some_iff.mp H
  obtain ⟨t274, A50, H⟩ := H
  replace H : ((clock_New.f t273 t274).bind fun bt275 => (if bt275.2.2.2.2.2.2.2 = 0 then (scriptoriumlaw06_ClockStays.l0 k l2 0 bt275.1 bt275.2.1 bt275.2.2.1 bt275.2.2.2.1 bt275.2.2.2.2.1 bt275.2.2.2.2.2.1 bt275.2.2.2.2.2.2.1) else (some false))) = some r := H
  have A5 := Aside0.mk A50
  clear A50
  replace H := Option.bind_eq_some_iff.mp H
  obtain ⟨⟨t275, t276, t277, t278, t279, t280, t281, t283⟩, A60, H⟩ := H
  replace H : (if t283 = 0 then (scriptoriumlaw06_ClockStays.l0 k l2 0 t275 t276 t277 t278 t279 t280 t281) else (some false)) = some r := H
  have A6 := Aside0.mk A60
  clear A60
  by_cases c7 : t283 = 0
  · rw [if_pos c7] at H
    have c7b0 : (t283 == 0) = true := beq_iff_eq.mpr c7
    have c7b1 : (t283 != 0) = false := bne_eq_false_iff_eq.mpr c7
    clear c7
    have H' := Aside0.mk H
    clear H
    go_enter Try.func5, Try.ntmps5
    go_wp2_with (first | ((with_reducible refine gate_callee (f := 12) rfl ?_); refine goesL_ (some 16) rfl rfl Try.func12 (by kernel_rfl) rfl #[.int .i64 a0, .int .i64 500] rfl (by (try simp only [List.map_toArray, List.map_cons, List.map_nil]); first | done | rfl | (simp only [List.length_drop, List.length_take]; rfl)) ?_; (with_reducible refine (scriptoriumref00_Bring.calls a0 500 t273 _ A4.out).mono ?_); rintro e w' ⟨rfl, ⟨nd, rfl⟩⟩; refine ⟨_, rfl, ?_⟩) | ((with_reducible refine gate_callee (f := 12) rfl ?_); refine goesL_ (some 18) rfl rfl Try.func12 (by kernel_rfl) rfl #[.int .i64 a1, .int .i64 500] rfl (by (try simp only [List.map_toArray, List.map_cons, List.map_nil]); first | done | rfl | (simp only [List.length_drop, List.length_take]; rfl)) ?_; (with_reducible refine (scriptoriumref00_Bring.calls a1 500 t274 _ A5.out).mono ?_); rintro e w' ⟨rfl, ⟨nd, rfl⟩⟩; refine ⟨_, rfl, ?_⟩) | ((with_reducible refine gate_callee (f := 9) rfl ?_); refine goesL_ (some 19) rfl rfl Try.func9 (by kernel_rfl) rfl #[.int .i64 t273, .int .i64 t274] rfl (by (try simp only [List.map_toArray, List.map_cons, List.map_nil]); first | done | rfl | (simp only [List.length_drop, List.length_take]; rfl)) ?_; (with_reducible refine (clock_New.calls t273 t274 t275 t276 t277 t278 t279 t280 t281 t283 w _ ?side1 A6.out).mono ?_); (case side1 => repeat (first | (with_reducible first | exact HB.out | apply below_alloc | apply pw_below_drewN | apply below_drew1) | exact HB.out)); rintro e w8 ⟨g282, rfl, hi, hb, hb2, hgn⟩; refine ⟨_, rfl, ?_⟩; have n0_ := Aside0.mk (hb); have n1_ := Aside0.mk (hi); clear HB; have HB := n0_; have HI282 := n1_; clear n0_ n1_; (try clear hb); (try clear hb2); (try clear hk); (try clear hi); (try clear hgn)))
    go_loopg [9] k (fun kq v9 w' => ∃ (x9_1 : Int) (x283000_1 : Int) (x283001_1 : Int) (x283002_1 : Int) (x283003_1 : Int) (x283004_1 : Int) (x283005_1 : Int) (x283006_1 : Bool), v9 = .int .i64 x9_1 ∧ Aside0 (scriptoriumlaw06_ClockStays.l0 kq l2 x9_1 x283000_1 x283001_1 x283002_1 x283003_1 x283004_1 x283005_1 x283006_1 = some r) ∧ Aside0 (kq ≤ k) ∧ Aside0 (IsS51 w w' g282 x283000_1 x283001_1 x283002_1 x283003_1 x283004_1 x283005_1 x283006_1) ∧ Aside0 (Below w.heap.size w w'))
    case atStart => exact ⟨(0), (t275), (t276), (t277), (t278), (t279), (t280), (t281), (by first | rfl | (simp; done) | (simp [*]; done)), H', ⟨Nat.le_refl _⟩, ⟨by repeat (first | (with_reducible first | exact HI282.out | apply IsS51.alloc | apply IsS51.drewN | apply IsS51.drew | apply IsS51.set_0 | apply IsS51.set_1 | apply IsS51.set_2 | apply IsS51.set_3 | apply IsS51.set_4 | apply IsS51.set_5 | apply IsS51.set_6) | exact HI282.out)⟩, ⟨by repeat (first | (with_reducible first | exact HB.out | apply below_alloc | apply pw_below_drewN | apply below_drew1 | refine below_set ?_ (IsS51.ge HI282.out)) | exact HB.out)⟩⟩
    case round =>
      clear H'
      try clear c1
      try clear c2
      try clear p2
      try clear c5
      try clear c7
      try clear c7b0
      try clear c7b1
      obtain ⟨x9_1, x283000_1, x283001_1, x283002_1, x283003_1, x283004_1, x283005_1, x283006_1, rfl, HA, HK1, HI282, HB⟩ := hrel
      cases gk with
      | zero => exact absurd HA.out (by simp [scriptoriumlaw06_ClockStays.l0])
      | succ k1 =>
        have H := HA.out
        clear HA
        simp only [scriptoriumlaw06_ClockStays.l0] at H
        have HC9 := Aside0.mk H
        clear H
        go_upto_region 5 with (fail)
        go_cut [31] (fun v31 wc => ∃ (kq : Nat) (x31_8 : Bool), v31 = .bool x31_8 ∧ Aside0 (scriptoriumlaw06_ClockStays.j1 kq l2 x9_1 x31_8 x283000_1 x283001_1 x283002_1 x283003_1 x283004_1 x283005_1 x283006_1 = some r) ∧ Aside0 (kq ≤ k1) ∧ Aside0 (IsS51 w wc g282 x283000_1 x283001_1 x283002_1 x283003_1 x283004_1 x283005_1 x283006_1) ∧ Aside0 (Below w.heap.size w wc))
        case first =>
          have H := HC9.out
          clear HC9
          by_cases c10 : x9_1 < (l2.length : Int)
          · rw [if_pos c10] at H
            have c10b0 : decide (x9_1 < (l2.length : Int)) = true := decide_eq_true c10
            clear c10
            (first | rw [c10b0] | (simp only [i64_w, i32_w]; rw [c10b0]) | skip)
            have H' := Aside0.mk H
            clear H
            go_wp2
            go_meet
            case rel => exact ⟨_, (decide (x9_1 < 100)), (by first | rfl | (simp; done) | (simp [*]; done)), H', ⟨by have := HK1.out; first | omega | exact Nat.le_refl _⟩, ⟨by repeat (first | (with_reducible first | exact HI282.out | apply IsS51.alloc | apply IsS51.drewN | apply IsS51.drew | apply IsS51.set_0 | apply IsS51.set_1 | apply IsS51.set_2 | apply IsS51.set_3 | apply IsS51.set_4 | apply IsS51.set_5 | apply IsS51.set_6) | exact HI282.out)⟩, ⟨by repeat (first | (with_reducible first | exact HB.out | apply below_alloc | apply pw_below_drewN | apply below_drew1 | refine below_set ?_ (IsS51.ge HI282.out)) | exact HB.out)⟩⟩
          · rw [if_neg c10] at H
            have c10b0 : decide (x9_1 < (l2.length : Int)) = false := decide_eq_false c10
            clear c10
            (first | rw [c10b0] | (simp only [i64_w, i32_w]; rw [c10b0]) | skip)
            have H' := Aside0.mk H
            clear H
            go_wp2
            go_meet
            case rel => exact ⟨_, (false), (by first | rfl | (simp; done) | (simp [*]; done)), H', ⟨by have := HK1.out; first | omega | exact Nat.le_refl _⟩, ⟨by repeat (first | (with_reducible first | exact HI282.out | apply IsS51.alloc | apply IsS51.drewN | apply IsS51.drew | apply IsS51.set_0 | apply IsS51.set_1 | apply IsS51.set_2 | apply IsS51.set_3 | apply IsS51.set_4 | apply IsS51.set_5 | apply IsS51.set_6) | exact HI282.out)⟩, ⟨by repeat (first | (with_reducible first | exact HB.out | apply below_alloc | apply pw_below_drewN | apply below_drew1 | refine below_set ?_ (IsS51.ge HI282.out)) | exact HB.out)⟩⟩
        case rest =>
          clear HC9
          try clear c1
          try clear c2
          try clear p2
          try clear c5
          try clear c7
          try clear c7b0
          try clear c7b1
          try clear c9
          try clear c10
          try clear c10b0
          try clear p2
          obtain ⟨kq, x31_8, rfl, HA, HJ8, HI282, HB⟩ := hcut
          cases kq with
          | zero => exact absurd HA.out (by simp [scriptoriumlaw06_ClockStays.j1])
          | succ kj8 =>
            have H := HA.out
            clear HA
            simp only [scriptoriumlaw06_ClockStays.j1] at H
            by_cases c11 : x31_8 = true
            · subst c11
              have H1 : ((clock_Clock_Reading.f x283000_1 x283001_1 x283002_1 x283003_1 x283004_1 x283005_1 x283006_1).bind fun bt285 => ((clock_Clock_Last.f bt285.2.1 bt285.2.2.1 bt285.2.2.2.1 bt285.2.2.2.2.1 bt285.2.2.2.2.2.1 bt285.2.2.2.2.2.2.1 bt285.2.2.2.2.2.2.2).bind fun bt293 => ((clock_Clock_Bound.f bt293.2.2.1 bt293.2.2.2.1 bt293.2.2.2.2.1 bt293.2.2.2.2.2.1 bt293.2.2.2.2.2.2.1 bt293.2.2.2.2.2.2.2.1 bt293.2.2.2.2.2.2.2.2).bind fun bt302 => (if 0 ≤ x9_1 then (if x9_1 < (l2.length : Int) then ((scriptoriumref00_Bring.f ((rd_T45 l2 x9_1).f0) 4).bind fun t312 => (if t312 = 0 then ((clock_Clock_Set.f bt302.2.1 bt302.2.2.1 bt302.2.2.2.1 bt302.2.2.2.2.1 bt302.2.2.2.2.2.1 bt302.2.2.2.2.2.2.1 bt302.2.2.2.2.2.2.2 ((rd_T45 l2 x9_1).f1)).bind fun bt314 => (scriptoriumlaw06_ClockStays.j2 kj8 l2 x9_1 bt285.1 bt302.1 bt314.1 bt314.2.1 bt314.2.2.1 bt314.2.2.2.1 bt314.2.2.2.2.1 bt314.2.2.2.2.2.1 bt314.2.2.2.2.2.2.1 bt314.2.2.2.2.2.2.2 bt293.1 bt293.2.1)) else (if t312 = 1 then ((clock_Clock_Raise.f bt302.2.1 bt302.2.2.1 bt302.2.2.2.1 bt302.2.2.2.2.1 bt302.2.2.2.2.2.1 bt302.2.2.2.2.2.2.1 bt302.2.2.2.2.2.2.2 ((rd_T45 l2 x9_1).f1)).bind fun bt323 => (scriptoriumlaw06_ClockStays.j2 kj8 l2 x9_1 bt285.1 bt302.1 bt323.1 bt323.2.1 bt323.2.2.1 bt323.2.2.2.1 bt323.2.2.2.2.1 bt323.2.2.2.2.2.1 bt323.2.2.2.2.2.2.1 bt323.2.2.2.2.2.2.2 bt293.1 bt293.2.1)) else (if t312 = 2 then ((clock_Clock_Now.f bt302.2.1 bt302.2.2.1 bt302.2.2.2.1 bt302.2.2.2.2.1 bt302.2.2.2.2.2.1 bt302.2.2.2.2.2.2.1 bt302.2.2.2.2.2.2.2).bind fun bt331 => (scriptoriumlaw06_ClockStays.j2 kj8 l2 x9_1 bt285.1 bt302.1 bt331.2.2.1 bt331.2.2.2.1 bt331.2.2.2.2.1 bt331.2.2.2.2.2.1 bt331.2.2.2.2.2.2.1 bt331.2.2.2.2.2.2.2.1 bt331.2.2.2.2.2.2.2.2.1 bt331.2.2.2.2.2.2.2.2.2 bt293.1 bt293.2.1)) else ((clock_Clock_See.f bt302.2.1 bt302.2.2.1 bt302.2.2.2.1 bt302.2.2.2.2.1 bt302.2.2.2.2.2.1 bt302.2.2.2.2.2.2.1 bt302.2.2.2.2.2.2.2 ((rd_T45 l2 x9_1).f2.f0) ((rd_T45 l2 x9_1).f2.f1)).bind fun bt342 => (scriptoriumlaw06_ClockStays.j2 kj8 l2 x9_1 bt285.1 bt302.1 bt342.1 bt342.2.1 bt342.2.2.1 bt342.2.2.2.1 bt342.2.2.2.2.1 bt342.2.2.2.2.2.1 bt342.2.2.2.2.2.2.1 bt342.2.2.2.2.2.2.2 bt293.1 bt293.2.1)))))) else (none)) else (none))))) = some r := by rw [if_pos rfl] at H; exact H
              clear H
              have H := H1
              clear H1
              replace H := Option.bind_eq_some_iff.mp H
              obtain ⟨⟨t285, t286, t287, t288, t289, t290, t291, t292⟩, A120, H⟩ := H
              replace H : ((clock_Clock_Last.f t286 t287 t288 t289 t290 t291 t292).bind fun bt293 => ((clock_Clock_Bound.f bt293.2.2.1 bt293.2.2.2.1 bt293.2.2.2.2.1 bt293.2.2.2.2.2.1 bt293.2.2.2.2.2.2.1 bt293.2.2.2.2.2.2.2.1 bt293.2.2.2.2.2.2.2.2).bind fun bt302 => (if 0 ≤ x9_1 then (if x9_1 < (l2.length : Int) then ((scriptoriumref00_Bring.f ((rd_T45 l2 x9_1).f0) 4).bind fun t312 => (if t312 = 0 then ((clock_Clock_Set.f bt302.2.1 bt302.2.2.1 bt302.2.2.2.1 bt302.2.2.2.2.1 bt302.2.2.2.2.2.1 bt302.2.2.2.2.2.2.1 bt302.2.2.2.2.2.2.2 ((rd_T45 l2 x9_1).f1)).bind fun bt314 => (scriptoriumlaw06_ClockStays.j2 kj8 l2 x9_1 t285 bt302.1 bt314.1 bt314.2.1 bt314.2.2.1 bt314.2.2.2.1 bt314.2.2.2.2.1 bt314.2.2.2.2.2.1 bt314.2.2.2.2.2.2.1 bt314.2.2.2.2.2.2.2 bt293.1 bt293.2.1)) else (if t312 = 1 then ((clock_Clock_Raise.f bt302.2.1 bt302.2.2.1 bt302.2.2.2.1 bt302.2.2.2.2.1 bt302.2.2.2.2.2.1 bt302.2.2.2.2.2.2.1 bt302.2.2.2.2.2.2.2 ((rd_T45 l2 x9_1).f1)).bind fun bt323 => (scriptoriumlaw06_ClockStays.j2 kj8 l2 x9_1 t285 bt302.1 bt323.1 bt323.2.1 bt323.2.2.1 bt323.2.2.2.1 bt323.2.2.2.2.1 bt323.2.2.2.2.2.1 bt323.2.2.2.2.2.2.1 bt323.2.2.2.2.2.2.2 bt293.1 bt293.2.1)) else (if t312 = 2 then ((clock_Clock_Now.f bt302.2.1 bt302.2.2.1 bt302.2.2.2.1 bt302.2.2.2.2.1 bt302.2.2.2.2.2.1 bt302.2.2.2.2.2.2.1 bt302.2.2.2.2.2.2.2).bind fun bt331 => (scriptoriumlaw06_ClockStays.j2 kj8 l2 x9_1 t285 bt302.1 bt331.2.2.1 bt331.2.2.2.1 bt331.2.2.2.2.1 bt331.2.2.2.2.2.1 bt331.2.2.2.2.2.2.1 bt331.2.2.2.2.2.2.2.1 bt331.2.2.2.2.2.2.2.2.1 bt331.2.2.2.2.2.2.2.2.2 bt293.1 bt293.2.1)) else ((clock_Clock_See.f bt302.2.1 bt302.2.2.1 bt302.2.2.2.1 bt302.2.2.2.2.1 bt302.2.2.2.2.2.1 bt302.2.2.2.2.2.2.1 bt302.2.2.2.2.2.2.2 ((rd_T45 l2 x9_1).f2.f0) ((rd_T45 l2 x9_1).f2.f1)).bind fun bt342 => (scriptoriumlaw06_ClockStays.j2 kj8 l2 x9_1 t285 bt302.1 bt342.1 bt342.2.1 bt342.2.2.1 bt342.2.2.2.1 bt342.2.2.2.2.1 bt342.2.2.2.2.2.1 bt342.2.2.2.2.2.2.1 bt342.2.2.2.2.2.2.2 bt293.1 bt293.2.1)))))) else (none)) else (none)))) = some r := H
              have A12 := Aside0.mk A120
              clear A120
              replace H := Option.bind_eq_some_iff.mp H
              obtain ⟨⟨t293, t294, t295, t296, t297, t298, t299, t300, t301⟩, A130, H⟩ := H
              replace H : ((clock_Clock_Bound.f t295 t296 t297 t298 t299 t300 t301).bind fun bt302 => (if 0 ≤ x9_1 then (if x9_1 < (l2.length : Int) then ((scriptoriumref00_Bring.f ((rd_T45 l2 x9_1).f0) 4).bind fun t312 => (if t312 = 0 then ((clock_Clock_Set.f bt302.2.1 bt302.2.2.1 bt302.2.2.2.1 bt302.2.2.2.2.1 bt302.2.2.2.2.2.1 bt302.2.2.2.2.2.2.1 bt302.2.2.2.2.2.2.2 ((rd_T45 l2 x9_1).f1)).bind fun bt314 => (scriptoriumlaw06_ClockStays.j2 kj8 l2 x9_1 t285 bt302.1 bt314.1 bt314.2.1 bt314.2.2.1 bt314.2.2.2.1 bt314.2.2.2.2.1 bt314.2.2.2.2.2.1 bt314.2.2.2.2.2.2.1 bt314.2.2.2.2.2.2.2 t293 t294)) else (if t312 = 1 then ((clock_Clock_Raise.f bt302.2.1 bt302.2.2.1 bt302.2.2.2.1 bt302.2.2.2.2.1 bt302.2.2.2.2.2.1 bt302.2.2.2.2.2.2.1 bt302.2.2.2.2.2.2.2 ((rd_T45 l2 x9_1).f1)).bind fun bt323 => (scriptoriumlaw06_ClockStays.j2 kj8 l2 x9_1 t285 bt302.1 bt323.1 bt323.2.1 bt323.2.2.1 bt323.2.2.2.1 bt323.2.2.2.2.1 bt323.2.2.2.2.2.1 bt323.2.2.2.2.2.2.1 bt323.2.2.2.2.2.2.2 t293 t294)) else (if t312 = 2 then ((clock_Clock_Now.f bt302.2.1 bt302.2.2.1 bt302.2.2.2.1 bt302.2.2.2.2.1 bt302.2.2.2.2.2.1 bt302.2.2.2.2.2.2.1 bt302.2.2.2.2.2.2.2).bind fun bt331 => (scriptoriumlaw06_ClockStays.j2 kj8 l2 x9_1 t285 bt302.1 bt331.2.2.1 bt331.2.2.2.1 bt331.2.2.2.2.1 bt331.2.2.2.2.2.1 bt331.2.2.2.2.2.2.1 bt331.2.2.2.2.2.2.2.1 bt331.2.2.2.2.2.2.2.2.1 bt331.2.2.2.2.2.2.2.2.2 t293 t294)) else ((clock_Clock_See.f bt302.2.1 bt302.2.2.1 bt302.2.2.2.1 bt302.2.2.2.2.1 bt302.2.2.2.2.2.1 bt302.2.2.2.2.2.2.1 bt302.2.2.2.2.2.2.2 ((rd_T45 l2 x9_1).f2.f0) ((rd_T45 l2 x9_1).f2.f1)).bind fun bt342 => (scriptoriumlaw06_ClockStays.j2 kj8 l2 x9_1 t285 bt302.1 bt342.1 bt342.2.1 bt342.2.2.1 bt342.2.2.2.1 bt342.2.2.2.2.1 bt342.2.2.2.2.2.1 bt342.2.2.2.2.2.2.1 bt342.2.2.2.2.2.2.2 t293 t294)))))) else (none)) else (none))) = some r := H
              have A13 := Aside0.mk A130
              clear A130
              replace H := Option.bind_eq_some_iff.mp H
              obtain ⟨⟨t302, t303, t304, t305, t306, t307, t308, t309⟩, A140, H⟩ := H
              replace H : (if 0 ≤ x9_1 then (if x9_1 < (l2.length : Int) then ((scriptoriumref00_Bring.f ((rd_T45 l2 x9_1).f0) 4).bind fun t312 => (if t312 = 0 then ((clock_Clock_Set.f t303 t304 t305 t306 t307 t308 t309 ((rd_T45 l2 x9_1).f1)).bind fun bt314 => (scriptoriumlaw06_ClockStays.j2 kj8 l2 x9_1 t285 t302 bt314.1 bt314.2.1 bt314.2.2.1 bt314.2.2.2.1 bt314.2.2.2.2.1 bt314.2.2.2.2.2.1 bt314.2.2.2.2.2.2.1 bt314.2.2.2.2.2.2.2 t293 t294)) else (if t312 = 1 then ((clock_Clock_Raise.f t303 t304 t305 t306 t307 t308 t309 ((rd_T45 l2 x9_1).f1)).bind fun bt323 => (scriptoriumlaw06_ClockStays.j2 kj8 l2 x9_1 t285 t302 bt323.1 bt323.2.1 bt323.2.2.1 bt323.2.2.2.1 bt323.2.2.2.2.1 bt323.2.2.2.2.2.1 bt323.2.2.2.2.2.2.1 bt323.2.2.2.2.2.2.2 t293 t294)) else (if t312 = 2 then ((clock_Clock_Now.f t303 t304 t305 t306 t307 t308 t309).bind fun bt331 => (scriptoriumlaw06_ClockStays.j2 kj8 l2 x9_1 t285 t302 bt331.2.2.1 bt331.2.2.2.1 bt331.2.2.2.2.1 bt331.2.2.2.2.2.1 bt331.2.2.2.2.2.2.1 bt331.2.2.2.2.2.2.2.1 bt331.2.2.2.2.2.2.2.2.1 bt331.2.2.2.2.2.2.2.2.2 t293 t294)) else ((clock_Clock_See.f t303 t304 t305 t306 t307 t308 t309 ((rd_T45 l2 x9_1).f2.f0) ((rd_T45 l2 x9_1).f2.f1)).bind fun bt342 => (scriptoriumlaw06_ClockStays.j2 kj8 l2 x9_1 t285 t302 bt342.1 bt342.2.1 bt342.2.2.1 bt342.2.2.2.1 bt342.2.2.2.2.1 bt342.2.2.2.2.2.1 bt342.2.2.2.2.2.2.1 bt342.2.2.2.2.2.2.2 t293 t294)))))) else (none)) else (none)) = some r := H
              have A14 := Aside0.mk A140
              clear A140
              by_cases c15 : 0 ≤ x9_1
              · rw [if_pos c15] at H
                have c15b0 : decide (0 ≤ x9_1) = true := decide_eq_true c15
                clear c15
                by_cases c16 : x9_1 < (l2.length : Int)
                · rw [if_pos c16] at H
                  have c16b0 : decide (x9_1 < (l2.length : Int)) = true := decide_eq_true c16
                  clear c16
                  replace H := Option.bind_eq_some_iff.mp H
                  obtain ⟨t312, A170, H⟩ := H
                  replace H : (if t312 = 0 then ((clock_Clock_Set.f t303 t304 t305 t306 t307 t308 t309 ((rd_T45 l2 x9_1).f1)).bind fun bt314 => (scriptoriumlaw06_ClockStays.j2 kj8 l2 x9_1 t285 t302 bt314.1 bt314.2.1 bt314.2.2.1 bt314.2.2.2.1 bt314.2.2.2.2.1 bt314.2.2.2.2.2.1 bt314.2.2.2.2.2.2.1 bt314.2.2.2.2.2.2.2 t293 t294)) else (if t312 = 1 then ((clock_Clock_Raise.f t303 t304 t305 t306 t307 t308 t309 ((rd_T45 l2 x9_1).f1)).bind fun bt323 => (scriptoriumlaw06_ClockStays.j2 kj8 l2 x9_1 t285 t302 bt323.1 bt323.2.1 bt323.2.2.1 bt323.2.2.2.1 bt323.2.2.2.2.1 bt323.2.2.2.2.2.1 bt323.2.2.2.2.2.2.1 bt323.2.2.2.2.2.2.2 t293 t294)) else (if t312 = 2 then ((clock_Clock_Now.f t303 t304 t305 t306 t307 t308 t309).bind fun bt331 => (scriptoriumlaw06_ClockStays.j2 kj8 l2 x9_1 t285 t302 bt331.2.2.1 bt331.2.2.2.1 bt331.2.2.2.2.1 bt331.2.2.2.2.2.1 bt331.2.2.2.2.2.2.1 bt331.2.2.2.2.2.2.2.1 bt331.2.2.2.2.2.2.2.2.1 bt331.2.2.2.2.2.2.2.2.2 t293 t294)) else ((clock_Clock_See.f t303 t304 t305 t306 t307 t308 t309 ((rd_T45 l2 x9_1).f2.f0) ((rd_T45 l2 x9_1).f2.f1)).bind fun bt342 => (scriptoriumlaw06_ClockStays.j2 kj8 l2 x9_1 t285 t302 bt342.1 bt342.2.1 bt342.2.2.1 bt342.2.2.2.1 bt342.2.2.2.2.1 bt342.2.2.2.2.2.1 bt342.2.2.2.2.2.2.1 bt342.2.2.2.2.2.2.2 t293 t294))))) = some r := H
                  have A17 := Aside0.mk A170
                  clear A170
                  have HC18 := Aside0.mk H
                  clear H
                  go_upto_block 2 with (first | ((with_reducible refine gate_callee (f := 13) rfl ?_); refine goesL_ (some 35) rfl rfl Try.func13 (by kernel_rfl) rfl #[.pointer (some ⟨g282, 0, none⟩)] rfl (by (try simp only [List.map_toArray, List.map_cons, List.map_nil]); first | done | rfl | (simp only [List.length_drop, List.length_take]; rfl)) ?_; (with_reducible refine (clock_Clock_Reading.calls g282 x283000_1 x283001_1 x283002_1 x283003_1 x283004_1 x283005_1 x283006_1 t285 t286 t287 t288 t289 t290 t291 t292 w _ ?side1 ?side2 A12.out).mono ?_); (case side1 => repeat (first | (with_reducible first | exact HI282.out | apply IsS51.alloc | apply IsS51.drewN | apply IsS51.drew | apply IsS51.set_0 | apply IsS51.set_1 | apply IsS51.set_2 | apply IsS51.set_3 | apply IsS51.set_4 | apply IsS51.set_5 | apply IsS51.set_6) | exact HI282.out)); (case side2 => repeat (first | (with_reducible first | exact HB.out | apply below_alloc | apply pw_below_drewN | apply below_drew1 | refine below_set ?_ (IsS51.ge HI282.out)) | exact HB.out)); rintro e w19 ⟨rfl, hi, hb, hk⟩; refine ⟨_, rfl, ?_⟩; have n0_ := Aside0.mk (hb); have n1_ := Aside0.mk (hi); clear HB; clear HI282; have HB := n0_; have HI282 := n1_; clear n0_ n1_; (try clear hb); (try clear hb2); (try clear hk); (try clear hi); (try clear hgn)) | ((with_reducible refine gate_callee (f := 21) rfl ?_); refine goesL_ (some 37) rfl rfl Try.func21 (by kernel_rfl) rfl #[.pointer (some ⟨g282, 0, none⟩)] rfl (by (try simp only [List.map_toArray, List.map_cons, List.map_nil]); first | done | rfl | (simp only [List.length_drop, List.length_take]; rfl)) ?_; (with_reducible refine (clock_Clock_Last.calls g282 t286 t287 t288 t289 t290 t291 t292 t293 t294 t295 t296 t297 t298 t299 t300 t301 w _ ?side1 ?side2 A13.out).mono ?_); (case side1 => repeat (first | (with_reducible first | exact HI282.out | apply IsS51.alloc | apply IsS51.drewN | apply IsS51.drew | apply IsS51.set_0 | apply IsS51.set_1 | apply IsS51.set_2 | apply IsS51.set_3 | apply IsS51.set_4 | apply IsS51.set_5 | apply IsS51.set_6) | exact HI282.out)); (case side2 => repeat (first | (with_reducible first | exact HB.out | apply below_alloc | apply pw_below_drewN | apply below_drew1 | refine below_set ?_ (IsS51.ge HI282.out)) | exact HB.out)); rintro e w20 ⟨rfl, hi, hb, hk⟩; refine ⟨_, rfl, ?_⟩; have n0_ := Aside0.mk (hb); have n1_ := Aside0.mk (hi); clear HB; clear HI282; have HB := n0_; have HI282 := n1_; clear n0_ n1_; (try clear hb); (try clear hb2); (try clear hk); (try clear hi); (try clear hgn)) | ((with_reducible refine gate_callee (f := 22) rfl ?_); refine goesL_ (some 39) rfl rfl Try.func22 (by kernel_rfl) rfl #[.pointer (some ⟨g282, 0, none⟩)] rfl (by (try simp only [List.map_toArray, List.map_cons, List.map_nil]); first | done | rfl | (simp only [List.length_drop, List.length_take]; rfl)) ?_; (with_reducible refine (clock_Clock_Bound.calls g282 t295 t296 t297 t298 t299 t300 t301 t302 t303 t304 t305 t306 t307 t308 t309 w _ ?side1 ?side2 A14.out).mono ?_); (case side1 => repeat (first | (with_reducible first | exact HI282.out | apply IsS51.alloc | apply IsS51.drewN | apply IsS51.drew | apply IsS51.set_0 | apply IsS51.set_1 | apply IsS51.set_2 | apply IsS51.set_3 | apply IsS51.set_4 | apply IsS51.set_5 | apply IsS51.set_6) | exact HI282.out)); (case side2 => repeat (first | (with_reducible first | exact HB.out | apply below_alloc | apply pw_below_drewN | apply below_drew1 | refine below_set ?_ (IsS51.ge HI282.out)) | exact HB.out)); rintro e w21 ⟨rfl, hi, hb, hk⟩; refine ⟨_, rfl, ?_⟩; have n0_ := Aside0.mk (hb); have n1_ := Aside0.mk (hi); clear HB; clear HI282; have HB := n0_; have HI282 := n1_; clear n0_ n1_; (try clear hb); (try clear hb2); (try clear hk); (try clear hi); (try clear hgn)) | ((with_reducible refine gate_dst (N := 11) rfl ?_); refine box_event ?hg (N := 11) ?hd (cs := #[.int .i64 0, .int .i64 0]) (t := 33) ?hr ?_; (case hd => rfl); (case hg => rfl); (case hr => first | (go_simp; done) | (go_simp; rfl)); intro gb310 hg w22 hbox hb; have n0_ := Aside0.mk (IsS51.below (by repeat (first | (with_reducible first | exact HI282.out | apply IsS51.alloc | apply IsS51.drewN | apply IsS51.drew | apply IsS51.set_0 | apply IsS51.set_1 | apply IsS51.set_2 | apply IsS51.set_3 | apply IsS51.set_4 | apply IsS51.set_5 | apply IsS51.set_6) | exact HI282.out)) hb); have n1_ := Aside0.mk (below_step (by repeat (first | (with_reducible first | exact HB.out | apply below_alloc | apply pw_below_drewN | apply below_drew1 | refine below_set ?_ (IsS51.ge HI282.out)) | exact HB.out)) hb); have n2_ := Aside0.mk (hbox); have n3_ := Aside0.mk ((by rw [hg]; exact (below_size (by repeat (first | (with_reducible first | exact HB.out | apply below_alloc | apply pw_below_drewN | apply below_drew1 | refine below_set ?_ (IsS51.ge HI282.out)) | exact HB.out))) : w.heap.size ≤ gb310)); have n4_ := Aside0.mk ((by rw [hg]; exact (below_size (by repeat (first | (with_reducible first | exact HB.out | apply below_alloc | apply pw_below_drewN | apply below_drew1 | refine below_set ?_ (IsS51.ge HI282.out)) | exact HB.out))) : w.heap.size ≤ gb310)); have n5_ := Aside0.mk ((by rw [hg]; exact Nat.ne_of_lt (IsS51.lt (show IsS51 w _ g282 t303 t304 t305 t306 t307 t308 t309 from by repeat (first | (with_reducible first | exact HI282.out | apply IsS51.alloc | apply IsS51.drewN | apply IsS51.drew | apply IsS51.set_0 | apply IsS51.set_1 | apply IsS51.set_2 | apply IsS51.set_3 | apply IsS51.set_4 | apply IsS51.set_5 | apply IsS51.set_6) | exact HI282.out))) : g282 ≠ gb310)); have n6_ := Aside0.mk ((by rw [hg]; exact Nat.ne_of_gt (IsS51.lt (show IsS51 w _ g282 t303 t304 t305 t306 t307 t308 t309 from by repeat (first | (with_reducible first | exact HI282.out | apply IsS51.alloc | apply IsS51.drewN | apply IsS51.drew | apply IsS51.set_0 | apply IsS51.set_1 | apply IsS51.set_2 | apply IsS51.set_3 | apply IsS51.set_4 | apply IsS51.set_5 | apply IsS51.set_6) | exact HI282.out))) : gb310 ≠ g282)); clear HI282; clear HB; have HI282 := n0_; have HB := n1_; have BK310 := n2_; have GW310 := n3_; have GE310 := n4_; have NB282_310 := n5_; have NB310_282 := n6_; clear n0_ n1_ n2_ n3_ n4_ n5_ n6_; clear hb hbox hg; have hnb23 := NB310_282.out; have hnc23 := NB282_310.out; have hcz24_0 : w22.cell? ⟨gb310, 0, none⟩ = some (.int .i64 0) := (blk_cell BK310.out 0).trans rfl; have hcz24_1 : w22.cell? ⟨gb310, 1, none⟩ = some (.int .i64 0) := (blk_cell BK310.out 1).trans rfl; have hfz24_0 := blk_frozen BK310.out 0; have hfz24_1 := blk_frozen BK310.out 1; have p311 : 0 ≤ (x9_1 : Int) := of_decide_eq_true (by first | (with_reducible assumption) | assumption); have q311 : x9_1 < (l2.length : Int) := of_decide_eq_true (by first | (with_reducible assumption) | assumption); obtain ⟨ad311, e311, hx311_0, hx311_1, hx311_2, hx311_3⟩ := at_T45 HR2.out x9_1 p311 q311; cases e311; have hn311_0 : ad311.block ≠ gb310 := Nat.ne_of_lt (Nat.lt_of_lt_of_le (by have := World.block_lt_of_cell? _ _ hx311_0; first | rwa [add_block] at this | exact this) GW310.out); have hn311_1 : ad311.block ≠ gb310 := Nat.ne_of_lt (Nat.lt_of_lt_of_le (by have := World.block_lt_of_cell? _ _ hx311_0; first | rwa [add_block] at this | exact this) GW310.out); replace hx311_0 := (HB.out.cell (World.block_lt_of_cell? w _ hx311_0)).trans hx311_0; replace hx311_1 := (HB.out.cell (World.block_lt_of_cell? w _ hx311_1)).trans hx311_1; replace hx311_2 := (HB.out.cell (World.block_lt_of_cell? w _ hx311_2)).trans hx311_2; replace hx311_3 := (HB.out.cell (World.block_lt_of_cell? w _ hx311_3)).trans hx311_3; replace hx311_0 := (cell_far (p := ⟨gb310, 0, none⟩) (by first | (rw [add_block]; exact hn311_0) | (show (Addr.add _ _).block ≠ _; rw [add_block]; exact hn311_0) | exact hn311_0) (.int .i64 t293)).trans hx311_0; replace hx311_1 := (cell_far (p := ⟨gb310, 0, none⟩) (by first | (rw [add_block]; exact hn311_0) | (show (Addr.add _ _).block ≠ _; rw [add_block]; exact hn311_0) | exact hn311_0) (.int .i64 t293)).trans hx311_1; replace hx311_2 := (cell_far (p := ⟨gb310, 0, none⟩) (by first | (rw [add_block]; exact hn311_0) | (show (Addr.add _ _).block ≠ _; rw [add_block]; exact hn311_0) | exact hn311_0) (.int .i64 t293)).trans hx311_2; replace hx311_3 := (cell_far (p := ⟨gb310, 0, none⟩) (by first | (rw [add_block]; exact hn311_0) | (show (Addr.add _ _).block ≠ _; rw [add_block]; exact hn311_0) | exact hn311_0) (.int .i64 t293)).trans hx311_3; replace hx311_0 := (cell_far (p := ⟨gb310, 1, none⟩) (by first | (rw [add_block]; exact hn311_1) | (show (Addr.add _ _).block ≠ _; rw [add_block]; exact hn311_1) | exact hn311_1) (.int .i64 t294)).trans hx311_0; replace hx311_1 := (cell_far (p := ⟨gb310, 1, none⟩) (by first | (rw [add_block]; exact hn311_1) | (show (Addr.add _ _).block ≠ _; rw [add_block]; exact hn311_1) | exact hn311_1) (.int .i64 t294)).trans hx311_1; replace hx311_2 := (cell_far (p := ⟨gb310, 1, none⟩) (by first | (rw [add_block]; exact hn311_1) | (show (Addr.add _ _).block ≠ _; rw [add_block]; exact hn311_1) | exact hn311_1) (.int .i64 t294)).trans hx311_2; replace hx311_3 := (cell_far (p := ⟨gb310, 1, none⟩) (by first | (rw [add_block]; exact hn311_1) | (show (Addr.add _ _).block ≠ _; rw [add_block]; exact hn311_1) | exact hn311_1) (.int .i64 t294)).trans hx311_3; clear hn311_0; clear hn311_1; replace p311 := eq_true p311; replace q311 := eq_true q311) | ((with_reducible refine gate_callee (f := 12) rfl ?_); refine goesL_ (some 45) rfl rfl Try.func12 (by kernel_rfl) rfl #[.int .i64 ((rd_T45 l2 x9_1).f0), .int .i64 4] rfl (by (try simp only [List.map_toArray, List.map_cons, List.map_nil]); first | done | rfl | (simp only [List.length_drop, List.length_take]; rfl)) ?_; (with_reducible refine (scriptoriumref00_Bring.calls ((rd_T45 l2 x9_1).f0) 4 t312 _ A17.out).mono ?_); rintro e w' ⟨rfl, ⟨nd, rfl⟩⟩; refine ⟨_, rfl, ?_⟩))
                  (try simp only [Act.put, List.setIfInBounds_toArray, List.set_cons_zero, List.set_cons_succ])
                  go_cut [13] (fun v13 wc => ∃ (kq : Nat) (x13_17 : Int) (x283000_17 : Int) (x283001_17 : Int) (x283002_17 : Int) (x283003_17 : Int) (x283004_17 : Int) (x283005_17 : Int) (x283006_17 : Bool), v13 = .int .i64 x13_17 ∧ Aside0 (scriptoriumlaw06_ClockStays.j2 kq l2 x9_1 t285 t302 x13_17 x283000_17 x283001_17 x283002_17 x283003_17 x283004_17 x283005_17 x283006_17 t293 t294 = some r) ∧ Aside0 (kq ≤ kj8) ∧ Aside0 (wc.heap[gb310]? = some (.cells #[.int .i64 t293, .int .i64 t294] 33 (0, 0))) ∧ Aside0 (IsS51 w wc g282 x283000_17 x283001_17 x283002_17 x283003_17 x283004_17 x283005_17 x283006_17) ∧ Aside0 (Below w.heap.size w wc))
                  case first =>
                    have H := HC18.out
                    clear HC18
                    by_cases c25 : t312 = 0
                    · rw [if_pos c25] at H
                      have c25b0 : (t312 == 0) = true := beq_iff_eq.mpr c25
                      have c25b1 : (t312 != 0) = false := bne_eq_false_iff_eq.mpr c25
                      clear c25
                      (first | rw [c25b0] | (simp only [i64_w, i32_w]; rw [c25b0]) | skip)
                      replace H := Option.bind_eq_some_iff.mp H
                      obtain ⟨⟨t314, t315, t316, t317, t318, t319, t320, t321⟩, A260, H⟩ := H
                      replace H : (scriptoriumlaw06_ClockStays.j2 kj8 l2 x9_1 t285 t302 t314 t315 t316 t317 t318 t319 t320 t321 t293 t294) = some r := H
                      have A26 := Aside0.mk A260
                      clear A260
                      have H' := Aside0.mk H
                      clear H
                      have p313 : 0 ≤ (x9_1 : Int) := of_decide_eq_true (by first | (with_reducible assumption) | assumption)
                      have q313 : x9_1 < (l2.length : Int) := of_decide_eq_true (by first | (with_reducible assumption) | assumption)
                      obtain ⟨ad313, e313, hx313_0, hx313_1, hx313_2, hx313_3⟩ := at_T45 HR2.out x9_1 p313 q313
                      obtain rfl : ad311 = ad313 := (by injection e313)
                      have hn313_0 : ad311.block ≠ gb310 := Nat.ne_of_lt (Nat.lt_of_lt_of_le (by have := World.block_lt_of_cell? _ _ hx313_0; first | rwa [add_block] at this | exact this) GW310.out)
                      have hn313_1 : ad311.block ≠ gb310 := Nat.ne_of_lt (Nat.lt_of_lt_of_le (by have := World.block_lt_of_cell? _ _ hx313_0; first | rwa [add_block] at this | exact this) GW310.out)
                      replace hx313_0 := (HB.out.cell (World.block_lt_of_cell? w _ hx313_0)).trans hx313_0
                      replace hx313_1 := (HB.out.cell (World.block_lt_of_cell? w _ hx313_1)).trans hx313_1
                      replace hx313_2 := (HB.out.cell (World.block_lt_of_cell? w _ hx313_2)).trans hx313_2
                      replace hx313_3 := (HB.out.cell (World.block_lt_of_cell? w _ hx313_3)).trans hx313_3
                      replace hx313_0 := (cell_far (p := ⟨gb310, 0, none⟩) (by first | (rw [add_block]; exact hn313_0) | (show (Addr.add _ _).block ≠ _; rw [add_block]; exact hn313_0) | exact hn313_0) (.int .i64 t293)).trans hx313_0
                      replace hx313_1 := (cell_far (p := ⟨gb310, 0, none⟩) (by first | (rw [add_block]; exact hn313_0) | (show (Addr.add _ _).block ≠ _; rw [add_block]; exact hn313_0) | exact hn313_0) (.int .i64 t293)).trans hx313_1
                      replace hx313_2 := (cell_far (p := ⟨gb310, 0, none⟩) (by first | (rw [add_block]; exact hn313_0) | (show (Addr.add _ _).block ≠ _; rw [add_block]; exact hn313_0) | exact hn313_0) (.int .i64 t293)).trans hx313_2
                      replace hx313_3 := (cell_far (p := ⟨gb310, 0, none⟩) (by first | (rw [add_block]; exact hn313_0) | (show (Addr.add _ _).block ≠ _; rw [add_block]; exact hn313_0) | exact hn313_0) (.int .i64 t293)).trans hx313_3
                      replace hx313_0 := (cell_far (p := ⟨gb310, 1, none⟩) (by first | (rw [add_block]; exact hn313_1) | (show (Addr.add _ _).block ≠ _; rw [add_block]; exact hn313_1) | exact hn313_1) (.int .i64 t294)).trans hx313_0
                      replace hx313_1 := (cell_far (p := ⟨gb310, 1, none⟩) (by first | (rw [add_block]; exact hn313_1) | (show (Addr.add _ _).block ≠ _; rw [add_block]; exact hn313_1) | exact hn313_1) (.int .i64 t294)).trans hx313_1
                      replace hx313_2 := (cell_far (p := ⟨gb310, 1, none⟩) (by first | (rw [add_block]; exact hn313_1) | (show (Addr.add _ _).block ≠ _; rw [add_block]; exact hn313_1) | exact hn313_1) (.int .i64 t294)).trans hx313_2
                      replace hx313_3 := (cell_far (p := ⟨gb310, 1, none⟩) (by first | (rw [add_block]; exact hn313_1) | (show (Addr.add _ _).block ≠ _; rw [add_block]; exact hn313_1) | exact hn313_1) (.int .i64 t294)).trans hx313_3
                      clear hn313_0
                      clear hn313_1
                      replace p313 := eq_true p313
                      replace q313 := eq_true q313
                      go_wp2_with (first | ((with_reducible refine gate_callee (f := 11) rfl ?_); refine goesL_ (some 61) rfl rfl Try.func11 (by kernel_rfl) rfl #[.pointer (some ⟨g282, 0, none⟩), .int .i64 ((rd_T45 l2 x9_1).f1)] rfl (by (try simp only [List.map_toArray, List.map_cons, List.map_nil]); first | done | rfl | (simp only [List.length_drop, List.length_take]; rfl)) ?_; (with_reducible refine (clock_Clock_Set.calls g282 t303 t304 t305 t306 t307 t308 t309 ((rd_T45 l2 x9_1).f1) t314 t315 t316 t317 t318 t319 t320 t321 w _ ?side1 ?side2 A26.out).mono ?_); (case side1 => repeat (first | (with_reducible first | exact HI282.out | apply IsS51.alloc | apply IsS51.drewN | apply IsS51.drew | apply IsS51.set_0 | apply IsS51.set_1 | apply IsS51.set_2 | apply IsS51.set_3 | apply IsS51.set_4 | apply IsS51.set_5 | apply IsS51.set_6 | refine IsS51.far ?_ NB282_310.out _) | exact HI282.out)); (case side2 => repeat (first | (with_reducible first | exact HB.out | apply below_alloc | apply pw_below_drewN | apply below_drew1 | refine below_set ?_ (IsS51.ge HI282.out) | refine below_set ?_ GE310.out) | exact HB.out)); rintro e w27 ⟨rfl, hi, hb, hk⟩; refine ⟨_, rfl, ?_⟩; have n0_ := Aside0.mk (KeepBut.blk hk (g' := gb310) (o := .cells #[.int .i64 t293, .int .i64 t294] 33 (0, 0)) (by (with_reducible repeat (first | refine blk_drewN ?_ _ | refine blk_drew ?_ | refine blk_alloc ?_ _)); refine blk_put (cs := #[.int .i64 t293, .int .i64 0]) ?_ 1 _ rfl; (with_reducible repeat (first | refine blk_drewN ?_ _ | refine blk_drew ?_ | refine blk_alloc ?_ _)); refine blk_put (cs := #[.int .i64 0, .int .i64 0]) ?_ 0 _ rfl; (with_reducible repeat (first | refine blk_drewN ?_ _ | refine blk_drew ?_ | refine blk_alloc ?_ _)); exact BK310.out) NB310_282.out (by simp)); have n1_ := Aside0.mk (hb); have n2_ := Aside0.mk (hi); clear BK310; clear HB; clear HI282; have BK310 := n0_; have HB := n1_; have HI282 := n2_; clear n0_ n1_ n2_; (try clear hb); (try clear hb2); (try clear hk); (try clear hi); (try clear hgn)))
                      go_meet
                      case rel => exact ⟨_, (t314), (t315), (t316), (t317), (t318), (t319), (t320), (t321), (by first | rfl | (simp; done) | (simp [*]; done)), H', ⟨by have := HK1.out; have := HJ8.out; first | omega | exact Nat.le_refl _⟩, ⟨by (with_reducible repeat (first | refine blk_drewN ?_ _ | refine blk_drew ?_ | refine blk_alloc ?_ _)); exact BK310.out⟩, ⟨by repeat (first | (with_reducible first | exact HI282.out | apply IsS51.alloc | apply IsS51.drewN | apply IsS51.drew | apply IsS51.set_0 | apply IsS51.set_1 | apply IsS51.set_2 | apply IsS51.set_3 | apply IsS51.set_4 | apply IsS51.set_5 | apply IsS51.set_6 | refine IsS51.far ?_ NB282_310.out _) | exact HI282.out)⟩, ⟨by repeat (first | (with_reducible first | exact HB.out | apply below_alloc | apply pw_below_drewN | apply below_drew1 | refine below_set ?_ (IsS51.ge HI282.out) | refine below_set ?_ GE310.out) | exact HB.out)⟩⟩
                    · rw [if_neg c25] at H
                      have c25b0 : (t312 == 0) = false := beq_eq_false_iff_ne.mpr c25
                      have c25b1 : (t312 != 0) = true := bne_iff_ne.mpr c25
                      (first | rw [c25b0] | (simp only [i64_w, i32_w]; rw [c25b0]) | skip)
                      by_cases c28 : t312 = 1
                      · rw [if_pos c28] at H
                        have c28b0 : (t312 == 1) = true := beq_iff_eq.mpr c28
                        have c28b1 : (t312 != 1) = false := bne_eq_false_iff_eq.mpr c28
                        clear c28
                        replace H := Option.bind_eq_some_iff.mp H
                        obtain ⟨⟨t323, t324, t325, t326, t327, t328, t329, t330⟩, A290, H⟩ := H
                        replace H : (scriptoriumlaw06_ClockStays.j2 kj8 l2 x9_1 t285 t302 t323 t324 t325 t326 t327 t328 t329 t330 t293 t294) = some r := H
                        have A29 := Aside0.mk A290
                        clear A290
                        have H' := Aside0.mk H
                        clear H
                        have p322 : 0 ≤ (x9_1 : Int) := of_decide_eq_true (by first | (with_reducible assumption) | assumption)
                        have q322 : x9_1 < (l2.length : Int) := of_decide_eq_true (by first | (with_reducible assumption) | assumption)
                        obtain ⟨ad322, e322, hx322_0, hx322_1, hx322_2, hx322_3⟩ := at_T45 HR2.out x9_1 p322 q322
                        obtain rfl : ad311 = ad322 := (by injection e322)
                        have hn322_0 : ad311.block ≠ gb310 := Nat.ne_of_lt (Nat.lt_of_lt_of_le (by have := World.block_lt_of_cell? _ _ hx322_0; first | rwa [add_block] at this | exact this) GW310.out)
                        have hn322_1 : ad311.block ≠ gb310 := Nat.ne_of_lt (Nat.lt_of_lt_of_le (by have := World.block_lt_of_cell? _ _ hx322_0; first | rwa [add_block] at this | exact this) GW310.out)
                        replace hx322_0 := (HB.out.cell (World.block_lt_of_cell? w _ hx322_0)).trans hx322_0
                        replace hx322_1 := (HB.out.cell (World.block_lt_of_cell? w _ hx322_1)).trans hx322_1
                        replace hx322_2 := (HB.out.cell (World.block_lt_of_cell? w _ hx322_2)).trans hx322_2
                        replace hx322_3 := (HB.out.cell (World.block_lt_of_cell? w _ hx322_3)).trans hx322_3
                        replace hx322_0 := (cell_far (p := ⟨gb310, 0, none⟩) (by first | (rw [add_block]; exact hn322_0) | (show (Addr.add _ _).block ≠ _; rw [add_block]; exact hn322_0) | exact hn322_0) (.int .i64 t293)).trans hx322_0
                        replace hx322_1 := (cell_far (p := ⟨gb310, 0, none⟩) (by first | (rw [add_block]; exact hn322_0) | (show (Addr.add _ _).block ≠ _; rw [add_block]; exact hn322_0) | exact hn322_0) (.int .i64 t293)).trans hx322_1
                        replace hx322_2 := (cell_far (p := ⟨gb310, 0, none⟩) (by first | (rw [add_block]; exact hn322_0) | (show (Addr.add _ _).block ≠ _; rw [add_block]; exact hn322_0) | exact hn322_0) (.int .i64 t293)).trans hx322_2
                        replace hx322_3 := (cell_far (p := ⟨gb310, 0, none⟩) (by first | (rw [add_block]; exact hn322_0) | (show (Addr.add _ _).block ≠ _; rw [add_block]; exact hn322_0) | exact hn322_0) (.int .i64 t293)).trans hx322_3
                        replace hx322_0 := (cell_far (p := ⟨gb310, 1, none⟩) (by first | (rw [add_block]; exact hn322_1) | (show (Addr.add _ _).block ≠ _; rw [add_block]; exact hn322_1) | exact hn322_1) (.int .i64 t294)).trans hx322_0
                        replace hx322_1 := (cell_far (p := ⟨gb310, 1, none⟩) (by first | (rw [add_block]; exact hn322_1) | (show (Addr.add _ _).block ≠ _; rw [add_block]; exact hn322_1) | exact hn322_1) (.int .i64 t294)).trans hx322_1
                        replace hx322_2 := (cell_far (p := ⟨gb310, 1, none⟩) (by first | (rw [add_block]; exact hn322_1) | (show (Addr.add _ _).block ≠ _; rw [add_block]; exact hn322_1) | exact hn322_1) (.int .i64 t294)).trans hx322_2
                        replace hx322_3 := (cell_far (p := ⟨gb310, 1, none⟩) (by first | (rw [add_block]; exact hn322_1) | (show (Addr.add _ _).block ≠ _; rw [add_block]; exact hn322_1) | exact hn322_1) (.int .i64 t294)).trans hx322_3
                        clear hn322_0
                        clear hn322_1
                        replace p322 := eq_true p322
                        replace q322 := eq_true q322
                        go_wp2_with (first | ((with_reducible refine gate_callee (f := 10) rfl ?_); refine goesL_ (some 70) rfl rfl Try.func10 (by kernel_rfl) rfl #[.pointer (some ⟨g282, 0, none⟩), .int .i64 ((rd_T45 l2 x9_1).f1)] rfl (by (try simp only [List.map_toArray, List.map_cons, List.map_nil]); first | done | rfl | (simp only [List.length_drop, List.length_take]; rfl)) ?_; (with_reducible refine (clock_Clock_Raise.calls g282 t303 t304 t305 t306 t307 t308 t309 ((rd_T45 l2 x9_1).f1) t323 t324 t325 t326 t327 t328 t329 t330 w _ ?side1 ?side2 A29.out).mono ?_); (case side1 => repeat (first | (with_reducible first | exact HI282.out | apply IsS51.alloc | apply IsS51.drewN | apply IsS51.drew | apply IsS51.set_0 | apply IsS51.set_1 | apply IsS51.set_2 | apply IsS51.set_3 | apply IsS51.set_4 | apply IsS51.set_5 | apply IsS51.set_6 | refine IsS51.far ?_ NB282_310.out _) | exact HI282.out)); (case side2 => repeat (first | (with_reducible first | exact HB.out | apply below_alloc | apply pw_below_drewN | apply below_drew1 | refine below_set ?_ (IsS51.ge HI282.out) | refine below_set ?_ GE310.out) | exact HB.out)); rintro e w30 ⟨rfl, hi, hb, hk⟩; refine ⟨_, rfl, ?_⟩; have n0_ := Aside0.mk (KeepBut.blk hk (g' := gb310) (o := .cells #[.int .i64 t293, .int .i64 t294] 33 (0, 0)) (by (with_reducible repeat (first | refine blk_drewN ?_ _ | refine blk_drew ?_ | refine blk_alloc ?_ _)); refine blk_put (cs := #[.int .i64 t293, .int .i64 0]) ?_ 1 _ rfl; (with_reducible repeat (first | refine blk_drewN ?_ _ | refine blk_drew ?_ | refine blk_alloc ?_ _)); refine blk_put (cs := #[.int .i64 0, .int .i64 0]) ?_ 0 _ rfl; (with_reducible repeat (first | refine blk_drewN ?_ _ | refine blk_drew ?_ | refine blk_alloc ?_ _)); exact BK310.out) NB310_282.out (by simp)); have n1_ := Aside0.mk (hb); have n2_ := Aside0.mk (hi); clear BK310; clear HB; clear HI282; have BK310 := n0_; have HB := n1_; have HI282 := n2_; clear n0_ n1_ n2_; (try clear hb); (try clear hb2); (try clear hk); (try clear hi); (try clear hgn)))
                        go_meet
                        case rel => exact ⟨_, (t323), (t324), (t325), (t326), (t327), (t328), (t329), (t330), (by first | rfl | (simp; done) | (simp [*]; done)), H', ⟨by have := HK1.out; have := HJ8.out; first | omega | exact Nat.le_refl _⟩, ⟨by (with_reducible repeat (first | refine blk_drewN ?_ _ | refine blk_drew ?_ | refine blk_alloc ?_ _)); exact BK310.out⟩, ⟨by repeat (first | (with_reducible first | exact HI282.out | apply IsS51.alloc | apply IsS51.drewN | apply IsS51.drew | apply IsS51.set_0 | apply IsS51.set_1 | apply IsS51.set_2 | apply IsS51.set_3 | apply IsS51.set_4 | apply IsS51.set_5 | apply IsS51.set_6 | refine IsS51.far ?_ NB282_310.out _) | exact HI282.out)⟩, ⟨by repeat (first | (with_reducible first | exact HB.out | apply below_alloc | apply pw_below_drewN | apply below_drew1 | refine below_set ?_ (IsS51.ge HI282.out) | refine below_set ?_ GE310.out) | exact HB.out)⟩⟩
                      · rw [if_neg c28] at H
                        have c28b0 : (t312 == 1) = false := beq_eq_false_iff_ne.mpr c28
                        have c28b1 : (t312 != 1) = true := bne_iff_ne.mpr c28
                        by_cases c31 : t312 = 2
                        · rw [if_pos c31] at H
                          have c31b0 : (t312 == 2) = true := beq_iff_eq.mpr c31
                          have c31b1 : (t312 != 2) = false := bne_eq_false_iff_eq.mpr c31
                          clear c31
                          replace H := Option.bind_eq_some_iff.mp H
                          obtain ⟨⟨t331, t332, t333, t334, t335, t336, t337, t338, t339, t340⟩, A320, H⟩ := H
                          replace H : (scriptoriumlaw06_ClockStays.j2 kj8 l2 x9_1 t285 t302 t333 t334 t335 t336 t337 t338 t339 t340 t293 t294) = some r := H
                          have A32 := Aside0.mk A320
                          clear A320
                          have H' := Aside0.mk H
                          clear H
                          go_wp2_with (first | ((with_reducible refine gate_callee (f := 14) rfl ?_); refine goesL_ (some 75) rfl rfl Try.func14 (by kernel_rfl) rfl #[.pointer (some ⟨g282, 0, none⟩)] rfl (by (try simp only [List.map_toArray, List.map_cons, List.map_nil]); first | done | rfl | (simp only [List.length_drop, List.length_take]; rfl)) ?_; (with_reducible refine (clock_Clock_Now.calls g282 t303 t304 t305 t306 t307 t308 t309 t331 t332 t333 t334 t335 t336 t337 t338 t339 t340 w _ ?side1 ?side2 A32.out).mono ?_); (case side1 => repeat (first | (with_reducible first | exact HI282.out | apply IsS51.alloc | apply IsS51.drewN | apply IsS51.drew | apply IsS51.set_0 | apply IsS51.set_1 | apply IsS51.set_2 | apply IsS51.set_3 | apply IsS51.set_4 | apply IsS51.set_5 | apply IsS51.set_6 | refine IsS51.far ?_ NB282_310.out _) | exact HI282.out)); (case side2 => repeat (first | (with_reducible first | exact HB.out | apply below_alloc | apply pw_below_drewN | apply below_drew1 | refine below_set ?_ (IsS51.ge HI282.out) | refine below_set ?_ GE310.out) | exact HB.out)); rintro e w33 ⟨rfl, hi, hb, hk⟩; refine ⟨_, rfl, ?_⟩; have n0_ := Aside0.mk (KeepBut.blk hk (g' := gb310) (o := .cells #[.int .i64 t293, .int .i64 t294] 33 (0, 0)) (by (with_reducible repeat (first | refine blk_drewN ?_ _ | refine blk_drew ?_ | refine blk_alloc ?_ _)); refine blk_put (cs := #[.int .i64 t293, .int .i64 0]) ?_ 1 _ rfl; (with_reducible repeat (first | refine blk_drewN ?_ _ | refine blk_drew ?_ | refine blk_alloc ?_ _)); refine blk_put (cs := #[.int .i64 0, .int .i64 0]) ?_ 0 _ rfl; (with_reducible repeat (first | refine blk_drewN ?_ _ | refine blk_drew ?_ | refine blk_alloc ?_ _)); exact BK310.out) NB310_282.out (by simp)); have n1_ := Aside0.mk (hb); have n2_ := Aside0.mk (hi); clear BK310; clear HB; clear HI282; have BK310 := n0_; have HB := n1_; have HI282 := n2_; clear n0_ n1_ n2_; (try clear hb); (try clear hb2); (try clear hk); (try clear hi); (try clear hgn)))
                          go_meet
                          case rel => exact ⟨_, (t333), (t334), (t335), (t336), (t337), (t338), (t339), (t340), (by first | rfl | (simp; done) | (simp [*]; done)), H', ⟨by have := HK1.out; have := HJ8.out; first | omega | exact Nat.le_refl _⟩, ⟨by (with_reducible repeat (first | refine blk_drewN ?_ _ | refine blk_drew ?_ | refine blk_alloc ?_ _)); exact BK310.out⟩, ⟨by repeat (first | (with_reducible first | exact HI282.out | apply IsS51.alloc | apply IsS51.drewN | apply IsS51.drew | apply IsS51.set_0 | apply IsS51.set_1 | apply IsS51.set_2 | apply IsS51.set_3 | apply IsS51.set_4 | apply IsS51.set_5 | apply IsS51.set_6 | refine IsS51.far ?_ NB282_310.out _) | exact HI282.out)⟩, ⟨by repeat (first | (with_reducible first | exact HB.out | apply below_alloc | apply pw_below_drewN | apply below_drew1 | refine below_set ?_ (IsS51.ge HI282.out) | refine below_set ?_ GE310.out) | exact HB.out)⟩⟩
                        · rw [if_neg c31] at H
                          have c31b0 : (t312 == 2) = false := beq_eq_false_iff_ne.mpr c31
                          have c31b1 : (t312 != 2) = true := bne_iff_ne.mpr c31
                          replace H := Option.bind_eq_some_iff.mp H
                          obtain ⟨⟨t342, t343, t344, t345, t346, t347, t348, t349⟩, A340, H⟩ := H
                          replace H : (scriptoriumlaw06_ClockStays.j2 kj8 l2 x9_1 t285 t302 t342 t343 t344 t345 t346 t347 t348 t349 t293 t294) = some r := H
                          have A34 := Aside0.mk A340
                          clear A340
                          have H' := Aside0.mk H
                          clear H
                          have p341 : 0 ≤ (x9_1 : Int) := of_decide_eq_true (by first | (with_reducible assumption) | assumption)
                          have q341 : x9_1 < (l2.length : Int) := of_decide_eq_true (by first | (with_reducible assumption) | assumption)
                          obtain ⟨ad341, e341, hx341_0, hx341_1, hx341_2, hx341_3⟩ := at_T45 HR2.out x9_1 p341 q341
                          obtain rfl : ad311 = ad341 := (by injection e341)
                          have hn341_0 : ad311.block ≠ gb310 := Nat.ne_of_lt (Nat.lt_of_lt_of_le (by have := World.block_lt_of_cell? _ _ hx341_0; first | rwa [add_block] at this | exact this) GW310.out)
                          have hn341_1 : ad311.block ≠ gb310 := Nat.ne_of_lt (Nat.lt_of_lt_of_le (by have := World.block_lt_of_cell? _ _ hx341_0; first | rwa [add_block] at this | exact this) GW310.out)
                          replace hx341_0 := (HB.out.cell (World.block_lt_of_cell? w _ hx341_0)).trans hx341_0
                          replace hx341_1 := (HB.out.cell (World.block_lt_of_cell? w _ hx341_1)).trans hx341_1
                          replace hx341_2 := (HB.out.cell (World.block_lt_of_cell? w _ hx341_2)).trans hx341_2
                          replace hx341_3 := (HB.out.cell (World.block_lt_of_cell? w _ hx341_3)).trans hx341_3
                          replace hx341_0 := (cell_far (p := ⟨gb310, 0, none⟩) (by first | (rw [add_block]; exact hn341_0) | (show (Addr.add _ _).block ≠ _; rw [add_block]; exact hn341_0) | exact hn341_0) (.int .i64 t293)).trans hx341_0
                          replace hx341_1 := (cell_far (p := ⟨gb310, 0, none⟩) (by first | (rw [add_block]; exact hn341_0) | (show (Addr.add _ _).block ≠ _; rw [add_block]; exact hn341_0) | exact hn341_0) (.int .i64 t293)).trans hx341_1
                          replace hx341_2 := (cell_far (p := ⟨gb310, 0, none⟩) (by first | (rw [add_block]; exact hn341_0) | (show (Addr.add _ _).block ≠ _; rw [add_block]; exact hn341_0) | exact hn341_0) (.int .i64 t293)).trans hx341_2
                          replace hx341_3 := (cell_far (p := ⟨gb310, 0, none⟩) (by first | (rw [add_block]; exact hn341_0) | (show (Addr.add _ _).block ≠ _; rw [add_block]; exact hn341_0) | exact hn341_0) (.int .i64 t293)).trans hx341_3
                          replace hx341_0 := (cell_far (p := ⟨gb310, 1, none⟩) (by first | (rw [add_block]; exact hn341_1) | (show (Addr.add _ _).block ≠ _; rw [add_block]; exact hn341_1) | exact hn341_1) (.int .i64 t294)).trans hx341_0
                          replace hx341_1 := (cell_far (p := ⟨gb310, 1, none⟩) (by first | (rw [add_block]; exact hn341_1) | (show (Addr.add _ _).block ≠ _; rw [add_block]; exact hn341_1) | exact hn341_1) (.int .i64 t294)).trans hx341_1
                          replace hx341_2 := (cell_far (p := ⟨gb310, 1, none⟩) (by first | (rw [add_block]; exact hn341_1) | (show (Addr.add _ _).block ≠ _; rw [add_block]; exact hn341_1) | exact hn341_1) (.int .i64 t294)).trans hx341_2
                          replace hx341_3 := (cell_far (p := ⟨gb310, 1, none⟩) (by first | (rw [add_block]; exact hn341_1) | (show (Addr.add _ _).block ≠ _; rw [add_block]; exact hn341_1) | exact hn341_1) (.int .i64 t294)).trans hx341_3
                          clear hn341_0
                          clear hn341_1
                          replace p341 := eq_true p341
                          replace q341 := eq_true q341
                          go_wp2_with (first | ((with_reducible refine gate_callee (f := 15) rfl ?_); refine goesL_ (some 52) rfl rfl Try.func15 (by kernel_rfl) rfl #[.pointer (some ⟨g282, 0, none⟩), .agg #[.int .i64 ((rd_T45 l2 x9_1).f2.f0), .int .i64 ((rd_T45 l2 x9_1).f2.f1)]] rfl (by (try simp only [List.map_toArray, List.map_cons, List.map_nil]); first | done | rfl | (simp only [List.length_drop, List.length_take]; rfl)) ?_; (with_reducible refine (clock_Clock_See.calls g282 t303 t304 t305 t306 t307 t308 t309 ((rd_T45 l2 x9_1).f2.f0) ((rd_T45 l2 x9_1).f2.f1) t342 t343 t344 t345 t346 t347 t348 t349 w _ ?side1 ?side2 A34.out).mono ?_); (case side1 => repeat (first | (with_reducible first | exact HI282.out | apply IsS51.alloc | apply IsS51.drewN | apply IsS51.drew | apply IsS51.set_0 | apply IsS51.set_1 | apply IsS51.set_2 | apply IsS51.set_3 | apply IsS51.set_4 | apply IsS51.set_5 | apply IsS51.set_6 | refine IsS51.far ?_ NB282_310.out _) | exact HI282.out)); (case side2 => repeat (first | (with_reducible first | exact HB.out | apply below_alloc | apply pw_below_drewN | apply below_drew1 | refine below_set ?_ (IsS51.ge HI282.out) | refine below_set ?_ GE310.out) | exact HB.out)); rintro e w35 ⟨rfl, hi, hb, hk⟩; refine ⟨_, rfl, ?_⟩; have n0_ := Aside0.mk (KeepBut.blk hk (g' := gb310) (o := .cells #[.int .i64 t293, .int .i64 t294] 33 (0, 0)) (by (with_reducible repeat (first | refine blk_drewN ?_ _ | refine blk_drew ?_ | refine blk_alloc ?_ _)); refine blk_put (cs := #[.int .i64 t293, .int .i64 0]) ?_ 1 _ rfl; (with_reducible repeat (first | refine blk_drewN ?_ _ | refine blk_drew ?_ | refine blk_alloc ?_ _)); refine blk_put (cs := #[.int .i64 0, .int .i64 0]) ?_ 0 _ rfl; (with_reducible repeat (first | refine blk_drewN ?_ _ | refine blk_drew ?_ | refine blk_alloc ?_ _)); exact BK310.out) NB310_282.out (by simp)); have n1_ := Aside0.mk (hb); have n2_ := Aside0.mk (hi); clear BK310; clear HB; clear HI282; have BK310 := n0_; have HB := n1_; have HI282 := n2_; clear n0_ n1_ n2_; (try clear hb); (try clear hb2); (try clear hk); (try clear hi); (try clear hgn)))
                          go_meet
                          case rel => exact ⟨_, (t342), (t343), (t344), (t345), (t346), (t347), (t348), (t349), (by first | rfl | (simp; done) | (simp [*]; done)), H', ⟨by have := HK1.out; have := HJ8.out; first | omega | exact Nat.le_refl _⟩, ⟨by (with_reducible repeat (first | refine blk_drewN ?_ _ | refine blk_drew ?_ | refine blk_alloc ?_ _)); exact BK310.out⟩, ⟨by repeat (first | (with_reducible first | exact HI282.out | apply IsS51.alloc | apply IsS51.drewN | apply IsS51.drew | apply IsS51.set_0 | apply IsS51.set_1 | apply IsS51.set_2 | apply IsS51.set_3 | apply IsS51.set_4 | apply IsS51.set_5 | apply IsS51.set_6 | refine IsS51.far ?_ NB282_310.out _) | exact HI282.out)⟩, ⟨by repeat (first | (with_reducible first | exact HB.out | apply below_alloc | apply pw_below_drewN | apply below_drew1 | refine below_set ?_ (IsS51.ge HI282.out) | refine below_set ?_ GE310.out) | exact HB.out)⟩⟩
                  case rest =>
                    clear HC18
                    try clear c1
                    try clear c2
                    try clear p2
                    try clear c3
                    try clear p3
                    try clear q3
                    try clear hx3
                    try clear c5
                    try clear c7
                    try clear c7b0
                    try clear c7b1
                    try clear c9
                    try clear c10
                    try clear c10b0
                    try clear c11
                    try clear c12
                    try clear c13
                    try clear c14
                    try clear c15
                    try clear c15b0
                    try clear c16
                    try clear c16b0
                    try clear c21
                    try clear c22
                    try clear c23
                    try clear c25
                    try clear c25b0
                    try clear c25b1
                    try clear c28
                    try clear c28b0
                    try clear c28b1
                    try clear c31
                    try clear c31b0
                    try clear c31b1
                    try clear p31
                    try clear q31
                    try clear hx31
                    try clear p32
                    try clear q32
                    try clear hx32
                    try clear p34
                    try clear q34
                    try clear hx34
                    try clear hcz24_0
                    try clear hcz24_1
                    try clear hfz24_0
                    try clear hfz24_1
                    try clear hx311_0
                    try clear hx311_1
                    try clear hx311_2
                    try clear hx311_3
                    try clear hx313_0
                    try clear hx313_1
                    try clear hx313_2
                    try clear hx313_3
                    try clear hx322_0
                    try clear hx322_1
                    try clear hx322_2
                    try clear hx322_3
                    try clear hx341_0
                    try clear hx341_1
                    try clear hx341_2
                    try clear hx341_3
                    try clear p2
                    try clear p311
                    try clear p313
                    try clear p322
                    try clear p341
                    try clear q311
                    try clear q313
                    try clear q322
                    try clear q341
                    obtain ⟨kq, x13_17, x283000_17, x283001_17, x283002_17, x283003_17, x283004_17, x283005_17, x283006_17, rfl, HA, HJ17, BK310, HI282, HB⟩ := hcut
                    cases kq with
                    | zero => exact absurd HA.out (by simp [scriptoriumlaw06_ClockStays.j2])
                    | succ kj17 =>
                      have H := HA.out
                      clear HA
                      simp only [scriptoriumlaw06_ClockStays.j2] at H
                      by_cases c36 : x13_17 = 0
                      · rw [if_pos c36] at H
                        have c36b0 : (x13_17 == 0) = true := beq_iff_eq.mpr c36
                        have c36b1 : (x13_17 != 0) = false := bne_eq_false_iff_eq.mpr c36
                        clear c36
                        have H' := Aside0.mk H
                        clear H
                        try go_wp2
                        have n0_ := Aside0.mk (blk_drew BK310.out)
                        have n1_ := Aside0.mk (IsS51.drew HI282.out)
                        have n2_ := Aside0.mk (below_drew1 HB.out)
                        clear BK310
                        clear HI282
                        clear HB
                        have BK310 := n0_
                        have HI282 := n1_
                        have HB := n2_
                        clear n0_ n1_ n2_
                        refine start_ (n := 20) (S := fun w' => True) (ds := []) #[false, false, false, false, false, false, false, false, false, false, false, false, false, false, false, false, false, false, false, false] (by kernel_rfl) rfl rfl trivial (fun hHeld => ?_); refine with_tabW scriptoriumlaw06_ClockStays.tab17 scriptoriumlaw06_ClockStays.bits17 (fun HT_ HW_ => ?_)
                        generalize wc.drew = w37 at BK310 HI282 HB hHeld ⊢
                        refine pure_ (i := 0) (N := some 78) (v := ?_) (a' := ?_) #[true, false, false, false, false, false, false, false, false, false, false, false, false, false, false, false, false, false, false, false] rfl rfl (any_of HT_.out (by kernel_rfl)) (fun _ _ _ h => h) (Or.inl ⟨by rfl, ?_⟩) ?_ ?_
                        rotate_left
                        · intro w'
                          go_simp
                          with_reducible rfl
                        rotate_left
                        · simp only [Act.put, List.setIfInBounds_toArray, List.set_cons_zero, List.set_cons_succ, i64_w, i32_w]
                          rfl
                        refine pure_ (i := 1) (N := some 79) (v := ?_) (a' := ?_) #[true, true, false, false, false, false, false, false, false, false, false, false, false, false, false, false, false, false, false, false] rfl rfl (any_of HT_.out (by kernel_rfl)) (fun _ _ _ h => h) (Or.inl ⟨by rfl, ?_⟩) ?_ ?_
                        rotate_left
                        · intro w'
                          go_simp
                          with_reducible rfl
                        rotate_left
                        · simp only [Act.put, List.setIfInBounds_toArray, List.set_cons_zero, List.set_cons_succ, i64_w, i32_w]
                          rfl
                        refine pure_ (i := 2) (N := some 80) (v := ?_) (a' := ?_) #[true, true, true, false, false, false, false, false, false, false, false, false, false, false, false, false, false, false, false, false] rfl rfl (any_of HT_.out (by kernel_rfl)) (fun _ _ _ h => h) (Or.inl ⟨by rfl, ?_⟩) ?_ ?_
                        rotate_left
                        · intro w'
                          go_simp
                          with_reducible rfl
                        rotate_left
                        · simp only [Act.put, List.setIfInBounds_toArray, List.set_cons_zero, List.set_cons_succ, i64_w, i32_w]
                          rfl
                        refine pure_ (i := 3) (N := some 81) (v := undef) (a' := ?_) #[true, true, true, true, false, false, false, false, false, false, false, false, false, false, false, false, false, false, false, false] rfl rfl (any_of HT_.out (by kernel_rfl)) (fun _ _ _ h => h) (Or.inr ⟨by rfl, rfl⟩) ?_ ?_
                        rotate_left
                        · simp only [Act.put, List.setIfInBounds_toArray, List.set_cons_zero, List.set_cons_succ, i64_w, i32_w]
                          rfl
                        refine pure_ (i := 4) (N := some 82) (v := undef) (a' := ?_) #[true, true, true, true, true, false, false, false, false, false, false, false, false, false, false, false, false, false, false, false] rfl rfl (any_of HT_.out (by kernel_rfl)) (fun _ _ _ h => h) (Or.inr ⟨by rfl, rfl⟩) ?_ ?_
                        rotate_left
                        · simp only [Act.put, List.setIfInBounds_toArray, List.set_cons_zero, List.set_cons_succ, i64_w, i32_w]
                          rfl
                        refine pure_ (i := 5) (N := some 83) (v := undef) (a' := ?_) #[true, true, true, true, true, true, false, false, false, false, false, false, false, false, false, false, false, false, false, false] rfl rfl (any_of HT_.out (by kernel_rfl)) (fun _ _ _ h => h) (Or.inr ⟨by rfl, rfl⟩) ?_ ?_
                        rotate_left
                        · simp only [Act.put, List.setIfInBounds_toArray, List.set_cons_zero, List.set_cons_succ, i64_w, i32_w]
                          rfl
                        refine pure_ (i := 6) (N := some 84) (v := undef) (a' := ?_) #[true, true, true, true, true, true, true, false, false, false, false, false, false, false, false, false, false, false, false, false] rfl rfl (any_of HT_.out (by kernel_rfl)) (fun _ _ _ h => h) (Or.inr ⟨by rfl, rfl⟩) ?_ ?_
                        rotate_left
                        · simp only [Act.put, List.setIfInBounds_toArray, List.set_cons_zero, List.set_cons_succ, i64_w, i32_w]
                          rfl
                        refine pure_ (i := 7) (N := some 85) (v := undef) (a' := ?_) #[true, true, true, true, true, true, true, true, false, false, false, false, false, false, false, false, false, false, false, false] rfl rfl (any_of HT_.out (by kernel_rfl)) (fun _ _ _ h => h) (Or.inr ⟨by rfl, rfl⟩) ?_ ?_
                        rotate_left
                        · simp only [Act.put, List.setIfInBounds_toArray, List.set_cons_zero, List.set_cons_succ, i64_w, i32_w]
                          rfl
                        refine pure_ (i := 8) (N := some 86) (v := undef) (a' := ?_) #[true, true, true, true, true, true, true, true, true, false, false, false, false, false, false, false, false, false, false, false] rfl rfl (any_of HT_.out (by kernel_rfl)) (fun _ _ _ h => h) (Or.inr ⟨by rfl, rfl⟩) ?_ ?_
                        rotate_left
                        · simp only [Act.put, List.setIfInBounds_toArray, List.set_cons_zero, List.set_cons_succ, i64_w, i32_w]
                          rfl
                        refine pure_ (i := 9) (N := some 87) (v := undef) (a' := ?_) #[true, true, true, true, true, true, true, true, true, true, false, false, false, false, false, false, false, false, false, false] rfl rfl (any_of HT_.out (by kernel_rfl)) (fun _ _ _ h => h) (Or.inr ⟨by rfl, rfl⟩) ?_ ?_
                        rotate_left
                        · simp only [Act.put, List.setIfInBounds_toArray, List.set_cons_zero, List.set_cons_succ, i64_w, i32_w]
                          rfl
                        refine pure_ (i := 10) (N := some 88) (v := undef) (a' := ?_) #[true, true, true, true, true, true, true, true, true, true, true, false, false, false, false, false, false, false, false, false] rfl rfl (any_of HT_.out (by kernel_rfl)) (fun _ _ _ h => h) (Or.inr ⟨by rfl, rfl⟩) ?_ ?_
                        rotate_left
                        · simp only [Act.put, List.setIfInBounds_toArray, List.set_cons_zero, List.set_cons_succ, i64_w, i32_w]
                          rfl
                        refine pure_ (i := 11) (N := some 89) (v := undef) (a' := ?_) #[true, true, true, true, true, true, true, true, true, true, true, true, false, false, false, false, false, false, false, false] rfl rfl (any_of HT_.out (by kernel_rfl)) (fun _ _ _ h => h) (Or.inr ⟨by rfl, rfl⟩) ?_ ?_
                        rotate_left
                        · simp only [Act.put, List.setIfInBounds_toArray, List.set_cons_zero, List.set_cons_succ, i64_w, i32_w]
                          rfl
                        refine pure_ (i := 12) (N := some 90) (v := undef) (a' := ?_) #[true, true, true, true, true, true, true, true, true, true, true, true, true, false, false, false, false, false, false, false] rfl rfl (any_of HT_.out (by kernel_rfl)) (fun _ _ _ h => h) (Or.inr ⟨by rfl, rfl⟩) ?_ ?_
                        rotate_left
                        · simp only [Act.put, List.setIfInBounds_toArray, List.set_cons_zero, List.set_cons_succ, i64_w, i32_w]
                          rfl
                        refine pure_ (i := 13) (N := some 91) (v := undef) (a' := ?_) #[true, true, true, true, true, true, true, true, true, true, true, true, true, true, false, false, false, false, false, false] rfl rfl (any_of HT_.out (by kernel_rfl)) (fun _ _ _ h => h) (Or.inr ⟨by rfl, rfl⟩) ?_ ?_
                        rotate_left
                        · simp only [Act.put, List.setIfInBounds_toArray, List.set_cons_zero, List.set_cons_succ, i64_w, i32_w]
                          rfl
                        refine pure_ (i := 14) (N := some 92) (v := undef) (a' := ?_) #[true, true, true, true, true, true, true, true, true, true, true, true, true, true, true, false, false, false, false, false] rfl rfl (any_of HT_.out (by kernel_rfl)) (fun _ _ _ h => h) (Or.inr ⟨by rfl, rfl⟩) ?_ ?_
                        rotate_left
                        · simp only [Act.put, List.setIfInBounds_toArray, List.set_cons_zero, List.set_cons_succ, i64_w, i32_w]
                          rfl
                        refine pure_ (i := 15) (N := some 93) (v := undef) (a' := ?_) #[true, true, true, true, true, true, true, true, true, true, true, true, true, true, true, true, false, false, false, false] rfl rfl (any_of HT_.out (by kernel_rfl)) (fun _ _ _ h => h) (Or.inr ⟨by rfl, rfl⟩) ?_ ?_
                        rotate_left
                        · simp only [Act.put, List.setIfInBounds_toArray, List.set_cons_zero, List.set_cons_succ, i64_w, i32_w]
                          rfl
                        refine pure_ (i := 16) (N := some 94) (v := undef) (a' := ?_) #[true, true, true, true, true, true, true, true, true, true, true, true, true, true, true, true, true, false, false, false] rfl rfl (any_of HT_.out (by kernel_rfl)) (fun _ _ _ h => h) (Or.inr ⟨by rfl, rfl⟩) ?_ ?_
                        rotate_left
                        · simp only [Act.put, List.setIfInBounds_toArray, List.set_cons_zero, List.set_cons_succ, i64_w, i32_w]
                          rfl
                        refine pure_ (i := 17) (N := some 95) (v := undef) (a' := ?_) #[true, true, true, true, true, true, true, true, true, true, true, true, true, true, true, true, true, true, false, false] rfl rfl (any_of HT_.out (by kernel_rfl)) (fun _ _ _ h => h) (Or.inr ⟨by rfl, rfl⟩) ?_ ?_
                        rotate_left
                        · simp only [Act.put, List.setIfInBounds_toArray, List.set_cons_zero, List.set_cons_succ, i64_w, i32_w]
                          rfl
                        refine pure_ (i := 18) (N := some 96) (v := undef) (a' := ?_) #[true, true, true, true, true, true, true, true, true, true, true, true, true, true, true, true, true, true, true, false] rfl rfl (any_of HT_.out (by kernel_rfl)) (fun _ _ _ h => h) (Or.inr ⟨by rfl, rfl⟩) ?_ ?_
                        rotate_left
                        · simp only [Act.put, List.setIfInBounds_toArray, List.set_cons_zero, List.set_cons_succ, i64_w, i32_w]
                          rfl
                        refine pure_ (i := 19) (N := some 97) (v := ?_) (a' := ?_) #[true, true, true, true, true, true, true, true, true, true, true, true, true, true, true, true, true, true, true, true] rfl rfl (any_of HT_.out (by kernel_rfl)) (fun _ _ _ h => h) (Or.inl ⟨by rfl, ?_⟩) ?_ ?_
                        rotate_left
                        · intro w'
                          go_simp
                          with_reducible rfl
                        rotate_left
                        · simp only [Act.put, List.setIfInBounds_toArray, List.set_cons_zero, List.set_cons_succ, i64_w, i32_w]
                          rfl
                        refine done_ (done_of HT_.out (by kernel_rfl)) ?_
                        try go_wp2
                        go_roundg kj17
                        case measure => have := HK1.out; have := HJ8.out; have := HJ17.out; omega
                        case rel => exact ⟨(wrap64 (x9_1 + 1)), (x283000_17), (x283001_17), (x283002_17), (x283003_17), (x283004_17), (x283005_17), (x283006_17), (by first | rfl | (simp; done) | (simp [*]; done)), H', ⟨by have := HK1.out; have := HJ8.out; have := HJ17.out; omega⟩, ⟨by repeat (first | (with_reducible first | exact HI282.out | apply IsS51.alloc | apply IsS51.drewN | apply IsS51.drew | apply IsS51.set_0 | apply IsS51.set_1 | apply IsS51.set_2 | apply IsS51.set_3 | apply IsS51.set_4 | apply IsS51.set_5 | apply IsS51.set_6 | refine IsS51.far ?_ NB282_310.out _) | exact HI282.out)⟩, ⟨by repeat (first | (with_reducible first | exact HB.out | apply below_alloc | apply pw_below_drewN | apply below_drew1 | refine below_set ?_ (IsS51.ge HI282.out) | refine below_set ?_ GE310.out) | exact HB.out)⟩⟩
                      · rw [if_neg c36] at H
                        have c36b0 : (x13_17 == 0) = false := beq_eq_false_iff_ne.mpr c36
                        have c36b1 : (x13_17 != 0) = true := bne_iff_ne.mpr c36
                        replace H := Option.bind_eq_some_iff.mp H
                        obtain ⟨⟨t350, t351, t352, t353, t354, t355, t356, t357⟩, A380, H⟩ := H
                        replace H : (if t350 = t285 then ((clock_Clock_Last.f t351 t352 t353 t354 t355 t356 t357).bind fun bt358 => (if (!(bt358.1 == t293) || (!(bt358.2.1 == t294))) = true then (some false) else ((clock_Clock_Bound.f bt358.2.2.1 bt358.2.2.2.1 bt358.2.2.2.2.1 bt358.2.2.2.2.2.1 bt358.2.2.2.2.2.2.1 bt358.2.2.2.2.2.2.2.1 bt358.2.2.2.2.2.2.2.2).bind fun bt367 => (if bt367.1 = t302 then (scriptoriumlaw06_ClockStays.l0 kj17 l2 (wrap64 (x9_1 + 1)) bt367.2.1 bt367.2.2.1 bt367.2.2.2.1 bt367.2.2.2.2.1 bt367.2.2.2.2.2.1 bt367.2.2.2.2.2.2.1 bt367.2.2.2.2.2.2.2) else (some false))))) else (some false)) = some r := H
                        have A38 := Aside0.mk A380
                        clear A380
                        by_cases c39 : t350 = t285
                        · rw [if_pos c39] at H
                          have c39b0 : (t350 == t285) = true := beq_iff_eq.mpr c39
                          have c39b1 : (t350 != t285) = false := bne_eq_false_iff_eq.mpr c39
                          clear c39
                          replace H := Option.bind_eq_some_iff.mp H
                          obtain ⟨⟨t358, t359, t360, t361, t362, t363, t364, t365, t366⟩, A400, H⟩ := H
                          replace H : (if (!(t358 == t293) || (!(t359 == t294))) = true then (some false) else ((clock_Clock_Bound.f t360 t361 t362 t363 t364 t365 t366).bind fun bt367 => (if bt367.1 = t302 then (scriptoriumlaw06_ClockStays.l0 kj17 l2 (wrap64 (x9_1 + 1)) bt367.2.1 bt367.2.2.1 bt367.2.2.2.1 bt367.2.2.2.2.1 bt367.2.2.2.2.2.1 bt367.2.2.2.2.2.2.1 bt367.2.2.2.2.2.2.2) else (some false)))) = some r := H
                          have A40 := Aside0.mk A400
                          clear A400
                          by_cases c41 : (!(t358 == t293) || (!(t359 == t294))) = true
                          · rw [if_pos c41] at H
                            have c41b0 : (!(t358 == t293) || (!(t359 == t294))) = true := c41
                            clear c41
                            exact absurd (Option.some.inj (H.trans (congrArg some hrt))) (by decide)
                          · rw [if_neg c41] at H
                            have c41b0 : (!(t358 == t293) || (!(t359 == t294))) = false := by simpa using c41
                            clear c41
                            replace H := Option.bind_eq_some_iff.mp H
                            obtain ⟨⟨t367, t368, t369, t370, t371, t372, t373, t374⟩, A420, H⟩ := H
                            replace H : (if t367 = t302 then (scriptoriumlaw06_ClockStays.l0 kj17 l2 (wrap64 (x9_1 + 1)) t368 t369 t370 t371 t372 t373 t374) else (some false)) = some r := H
                            have A42 := Aside0.mk A420
                            clear A420
                            by_cases c43 : t367 = t302
                            · rw [if_pos c43] at H
                              have c43b0 : (t367 == t302) = true := beq_iff_eq.mpr c43
                              have c43b1 : (t367 != t302) = false := bne_eq_false_iff_eq.mpr c43
                              clear c43
                              have H' := Aside0.mk H
                              clear H
                              try go_wp2
                              have n0_ := Aside0.mk (blk_drew BK310.out)
                              have n1_ := Aside0.mk (IsS51.drew HI282.out)
                              have n2_ := Aside0.mk (below_drew1 HB.out)
                              clear BK310
                              clear HI282
                              clear HB
                              have BK310 := n0_
                              have HI282 := n1_
                              have HB := n2_
                              clear n0_ n1_ n2_
                              refine start_ (n := 20) (S := fun w' => w'.cell? ⟨gb310, 0, none⟩ = some (.int .i64 t293) ∧ w'.cell? ⟨gb310, 1, none⟩ = some (.int .i64 t294)) (ds := []) #[false, false, false, false, false, false, false, false, false, false, false, false, false, false, false, false, false, false, false, false] (by kernel_rfl) rfl rfl ⟨(blk_cell BK310.out 0).trans rfl, (blk_cell BK310.out 1).trans rfl⟩ (fun hHeld => ?_); refine with_tabW scriptoriumlaw06_ClockStays.tab17 scriptoriumlaw06_ClockStays.bits17 (fun HT_ HW_ => ?_)
                              generalize wc.drew = w44 at BK310 HI282 HB hHeld ⊢
                              refine pure_ (i := 0) (N := some 78) (v := ?_) (a' := ?_) #[true, false, false, false, false, false, false, false, false, false, false, false, false, false, false, false, false, false, false, false] rfl rfl (any_of HT_.out (by kernel_rfl)) (fun _ _ _ h => h) (Or.inl ⟨by rfl, ?_⟩) ?_ ?_
                              rotate_left
                              · intro w'
                                go_simp
                                with_reducible rfl
                              rotate_left
                              · simp only [Act.put, List.setIfInBounds_toArray, List.set_cons_zero, List.set_cons_succ, i64_w, i32_w]
                                rfl
                              refine pure_ (i := 1) (N := some 79) (v := ?_) (a' := ?_) #[true, true, false, false, false, false, false, false, false, false, false, false, false, false, false, false, false, false, false, false] rfl rfl (any_of HT_.out (by kernel_rfl)) (fun _ _ _ h => h) (Or.inl ⟨by rfl, ?_⟩) ?_ ?_
                              rotate_left
                              · intro w'
                                go_simp
                                with_reducible rfl
                              rotate_left
                              · simp only [Act.put, List.setIfInBounds_toArray, List.set_cons_zero, List.set_cons_succ, i64_w, i32_w]
                                rfl
                              refine pure_ (i := 2) (N := some 80) (v := ?_) (a' := ?_) #[true, true, true, false, false, false, false, false, false, false, false, false, false, false, false, false, false, false, false, false] rfl rfl (any_of HT_.out (by kernel_rfl)) (fun _ _ _ h => h) (Or.inl ⟨by rfl, ?_⟩) ?_ ?_
                              rotate_left
                              · intro w'
                                go_simp
                                with_reducible rfl
                              rotate_left
                              · simp only [Act.put, List.setIfInBounds_toArray, List.set_cons_zero, List.set_cons_succ, i64_w, i32_w]
                                rfl
                              refine pure_ (i := 3) (N := some 81) (v := ?_) (a' := ?_) #[true, true, true, true, false, false, false, false, false, false, false, false, false, false, false, false, false, false, false, false] rfl rfl (any_of HT_.out (by kernel_rfl)) (fun _ _ _ h => h) (Or.inl ⟨by rfl, ?_⟩) ?_ ?_
                              rotate_left
                              · intro w'
                                go_simp
                                with_reducible rfl
                              rotate_left
                              · simp only [Act.put, List.setIfInBounds_toArray, List.set_cons_zero, List.set_cons_succ, i64_w, i32_w]
                                rfl
                              refine pure_ (i := 5) (N := some 83) (v := ?_) (a' := ?_) #[true, true, true, true, false, true, false, false, false, false, false, false, false, false, false, false, false, false, false, false] rfl rfl (any_of HT_.out (by kernel_rfl)) (fun _ _ _ h => h) (Or.inl ⟨by rfl, ?_⟩) ?_ ?_
                              rotate_left
                              · intro w'
                                go_simp
                                with_reducible rfl
                              rotate_left
                              · simp only [Act.put, List.setIfInBounds_toArray, List.set_cons_zero, List.set_cons_succ, i64_w, i32_w]
                                rfl
                              refine one_ (i := 4) (N := some 82) #[true, true, true, true, true, true, false, false, false, false, false, false, false, false, false, false, false, false, false, false] rfl rfl (one_of HT_.out (by kernel_rfl)) (by decide) (fun K hK => ?_)
                              refine goes_ Try.func13 (by kernel_rfl) rfl #[.pointer (some ⟨g282, 0, none⟩)] (by rfl) rfl rfl (by (try simp only [List.map_toArray, List.map_cons, List.map_nil]); first | done | rfl | (simp only [List.length_drop, List.length_take]; rfl)) ?_
                              with_reducible refine (clock_Clock_Reading.calls g282 x283000_17 x283001_17 x283002_17 x283003_17 x283004_17 x283005_17 x283006_17 t350 t351 t352 t353 t354 t355 t356 t357 w _ ?side1 ?side2 A38.out).mono ?_
                              (case side1 => repeat (first | (with_reducible first | exact HI282.out | apply IsS51.alloc | apply IsS51.drewN | apply IsS51.drew | apply IsS51.set_0 | apply IsS51.set_1 | apply IsS51.set_2 | apply IsS51.set_3 | apply IsS51.set_4 | apply IsS51.set_5 | apply IsS51.set_6 | refine IsS51.far ?_ NB282_310.out _) | exact HI282.out))
                              (case side2 => repeat (first | (with_reducible first | exact HB.out | apply below_alloc | apply pw_below_drewN | apply below_drew1 | refine below_set ?_ (IsS51.ge HI282.out) | refine below_set ?_ GE310.out) | exact HB.out))
                              rintro e w45 ⟨rfl, hi, hb, hk⟩
                              refine ⟨_, rfl, ?_⟩
                              have n0_ := Aside0.mk (KeepBut.blk hk (g' := gb310) (o := .cells #[.int .i64 t293, .int .i64 t294] 33 (0, 0)) (by (with_reducible repeat (first | refine blk_drewN ?_ _ | refine blk_drew ?_ | refine blk_alloc ?_ _)); exact BK310.out) NB310_282.out (by simp))
                              have n1_ := Aside0.mk (hb)
                              have n2_ := Aside0.mk (hi)
                              clear BK310
                              clear HB
                              clear HI282
                              have BK310 := n0_
                              have HB := n1_
                              have HI282 := n2_
                              clear n0_ n1_ n2_
                              (try clear hb)
                              (try clear hb2)
                              (try clear hk)
                              (try clear hi)
                              (try clear hgn)
                              refine hK.out _ _ ⟨(blk_cell BK310.out 0).trans rfl, (blk_cell BK310.out 1).trans rfl⟩ (fun hHeld => ?_)
                              clear hK K
                              refine norm_ (a' := ?_) ?_ ?_
                              rotate_left
                              · show Act.put _ (some 82) _ = _
                                simp only [Act.put, List.setIfInBounds_toArray, List.set_cons_zero, List.set_cons_succ, i64_w, i32_w]
                                rfl
                              refine pure_ (i := 6) (N := some 84) (v := ?_) (a' := ?_) #[true, true, true, true, true, true, true, false, false, false, false, false, false, false, false, false, false, false, false, false] rfl rfl (any_of HT_.out (by kernel_rfl)) (fun _ _ _ h => h) (Or.inl ⟨by rfl, ?_⟩) ?_ ?_
                              rotate_left
                              · intro w'
                                go_simp
                                with_reducible rfl
                              rotate_left
                              · simp only [Act.put, List.setIfInBounds_toArray, List.set_cons_zero, List.set_cons_succ, i64_w, i32_w]
                                rfl
                              refine pure_ (i := 7) (N := some 85) (v := ?_) (a' := ?_) #[true, true, true, true, true, true, true, true, false, false, false, false, false, false, false, false, false, false, false, false] rfl rfl (any_of HT_.out (by kernel_rfl)) (fun _ _ _ h => h) (Or.inl ⟨by rfl, ?_⟩) ?_ ?_
                              rotate_left
                              · intro w'
                                go_simp
                                with_reducible rfl
                              rotate_left
                              · simp only [Act.put, List.setIfInBounds_toArray, List.set_cons_zero, List.set_cons_succ, i64_w, i32_w]
                                rfl
                              refine pure_ (i := 8) (N := some 86) (v := ?_) (a' := ?_) #[true, true, true, true, true, true, true, true, true, false, false, false, false, false, false, false, false, false, false, false] rfl rfl (any_of HT_.out (by kernel_rfl)) (fun _ _ _ h => h) (Or.inl ⟨by rfl, ?_⟩) ?_ ?_
                              rotate_left
                              · intro w'
                                go_simp
                                with_reducible rfl
                              rotate_left
                              · simp only [Act.put, List.setIfInBounds_toArray, List.set_cons_zero, List.set_cons_succ, i64_w, i32_w]
                                rfl
                              refine take_ (i := 10) (N := some 88) (v := ?_) (a' := ?_) #[true, true, true, true, true, true, true, true, true, false, true, false, false, false, false, false, false, false, false, false] rfl rfl (take_ofW HT_.out HW_.out (by kernel_rfl)) (fun _ _ _ h => h) (Or.inl ⟨by rfl, ?_⟩) hHeld ?_ ?_
                              rotate_left
                              · rintro w' ⟨s0, s1⟩
                                go_simp
                                with_reducible rfl
                              rotate_left
                              · simp only [Act.put, List.setIfInBounds_toArray, List.set_cons_zero, List.set_cons_succ, i64_w, i32_w]
                                rfl
                              refine one_ (i := 9) (N := some 87) #[true, true, true, true, true, true, true, true, true, true, true, false, false, false, false, false, false, false, false, false] rfl rfl (one_of HT_.out (by kernel_rfl)) (by decide) (fun K hK => ?_)
                              refine goes_ Try.func21 (by kernel_rfl) rfl #[.pointer (some ⟨g282, 0, none⟩)] (by rfl) rfl rfl (by (try simp only [List.map_toArray, List.map_cons, List.map_nil]); first | done | rfl | (simp only [List.length_drop, List.length_take]; rfl)) ?_
                              with_reducible refine (clock_Clock_Last.calls g282 t351 t352 t353 t354 t355 t356 t357 t358 t359 t360 t361 t362 t363 t364 t365 t366 w _ ?side1 ?side2 A40.out).mono ?_
                              (case side1 => repeat (first | (with_reducible first | exact HI282.out | apply IsS51.alloc | apply IsS51.drewN | apply IsS51.drew | apply IsS51.set_0 | apply IsS51.set_1 | apply IsS51.set_2 | apply IsS51.set_3 | apply IsS51.set_4 | apply IsS51.set_5 | apply IsS51.set_6 | refine IsS51.far ?_ NB282_310.out _) | exact HI282.out))
                              (case side2 => repeat (first | (with_reducible first | exact HB.out | apply below_alloc | apply pw_below_drewN | apply below_drew1 | refine below_set ?_ (IsS51.ge HI282.out) | refine below_set ?_ GE310.out) | exact HB.out))
                              rintro e w46 ⟨rfl, hi, hb, hk⟩
                              refine ⟨_, rfl, ?_⟩
                              have n0_ := Aside0.mk (KeepBut.blk hk (g' := gb310) (o := .cells #[.int .i64 t293, .int .i64 t294] 33 (0, 0)) (by (with_reducible repeat (first | refine blk_drewN ?_ _ | refine blk_drew ?_ | refine blk_alloc ?_ _)); exact BK310.out) NB310_282.out (by simp))
                              have n1_ := Aside0.mk (hb)
                              have n2_ := Aside0.mk (hi)
                              clear BK310
                              clear HB
                              clear HI282
                              have BK310 := n0_
                              have HB := n1_
                              have HI282 := n2_
                              clear n0_ n1_ n2_
                              (try clear hb)
                              (try clear hb2)
                              (try clear hk)
                              (try clear hi)
                              (try clear hgn)
                              refine hK.out _ _ ⟨(blk_cell BK310.out 0).trans rfl, (blk_cell BK310.out 1).trans rfl⟩ (fun hHeld => ?_)
                              clear hK K
                              refine norm_ (a' := ?_) ?_ ?_
                              rotate_left
                              · show Act.put _ (some 87) _ = _
                                simp only [Act.put, List.setIfInBounds_toArray, List.set_cons_zero, List.set_cons_succ, i64_w, i32_w]
                                rfl
                              refine pure_ (i := 11) (N := some 89) (v := ?_) (a' := ?_) #[true, true, true, true, true, true, true, true, true, true, true, true, false, false, false, false, false, false, false, false] rfl rfl (any_of HT_.out (by kernel_rfl)) (fun _ _ _ h => h) (Or.inl ⟨by rfl, ?_⟩) ?_ ?_
                              rotate_left
                              · intro w'
                                go_simp
                                with_reducible rfl
                              rotate_left
                              · simp only [Act.put, List.setIfInBounds_toArray, List.set_cons_zero, List.set_cons_succ, i64_w, i32_w]
                                rfl
                              refine pure_ (i := 12) (N := some 90) (v := ?_) (a' := ?_) #[true, true, true, true, true, true, true, true, true, true, true, true, true, false, false, false, false, false, false, false] rfl rfl (any_of HT_.out (by kernel_rfl)) (fun _ _ _ h => h) (Or.inl ⟨by rfl, ?_⟩) ?_ ?_
                              rotate_left
                              · intro w'
                                go_simp
                                with_reducible rfl
                              rotate_left
                              · simp only [Act.put, List.setIfInBounds_toArray, List.set_cons_zero, List.set_cons_succ, i64_w, i32_w]
                                rfl
                              refine pure_ (i := 13) (N := some 91) (v := ?_) (a' := ?_) #[true, true, true, true, true, true, true, true, true, true, true, true, true, true, false, false, false, false, false, false] rfl rfl (any_of HT_.out (by kernel_rfl)) (fun _ _ _ h => h) (Or.inl ⟨by rfl, ?_⟩) ?_ ?_
                              rotate_left
                              · intro w'
                                go_simp
                                with_reducible rfl
                              rotate_left
                              · simp only [Act.put, List.setIfInBounds_toArray, List.set_cons_zero, List.set_cons_succ, i64_w, i32_w]
                                rfl
                              refine pure_ (i := 14) (N := some 92) (v := ?_) (a' := ?_) #[true, true, true, true, true, true, true, true, true, true, true, true, true, true, true, false, false, false, false, false] rfl rfl (any_of HT_.out (by kernel_rfl)) (fun _ _ _ h => h) (Or.inl ⟨by rfl, ?_⟩) ?_ ?_
                              rotate_left
                              · intro w'
                                go_simp
                                with_reducible rfl
                              rotate_left
                              · simp only [Act.put, List.setIfInBounds_toArray, List.set_cons_zero, List.set_cons_succ, i64_w, i32_w]
                                rfl
                              refine pure_ (i := 16) (N := some 94) (v := ?_) (a' := ?_) #[true, true, true, true, true, true, true, true, true, true, true, true, true, true, true, false, true, false, false, false] rfl rfl (any_of HT_.out (by kernel_rfl)) (fun _ _ _ h => h) (Or.inl ⟨by rfl, ?_⟩) ?_ ?_
                              rotate_left
                              · intro w'
                                go_simp
                                with_reducible rfl
                              rotate_left
                              · simp only [Act.put, List.setIfInBounds_toArray, List.set_cons_zero, List.set_cons_succ, i64_w, i32_w]
                                rfl
                              refine one_ (i := 15) (N := some 93) #[true, true, true, true, true, true, true, true, true, true, true, true, true, true, true, true, true, false, false, false] rfl rfl (one_of HT_.out (by kernel_rfl)) (by decide) (fun K hK => ?_)
                              refine goes_ Try.func22 (by kernel_rfl) rfl #[.pointer (some ⟨g282, 0, none⟩)] (by rfl) rfl rfl (by (try simp only [List.map_toArray, List.map_cons, List.map_nil]); first | done | rfl | (simp only [List.length_drop, List.length_take]; rfl)) ?_
                              with_reducible refine (clock_Clock_Bound.calls g282 t360 t361 t362 t363 t364 t365 t366 t367 t368 t369 t370 t371 t372 t373 t374 w _ ?side1 ?side2 A42.out).mono ?_
                              (case side1 => repeat (first | (with_reducible first | exact HI282.out | apply IsS51.alloc | apply IsS51.drewN | apply IsS51.drew | apply IsS51.set_0 | apply IsS51.set_1 | apply IsS51.set_2 | apply IsS51.set_3 | apply IsS51.set_4 | apply IsS51.set_5 | apply IsS51.set_6 | refine IsS51.far ?_ NB282_310.out _) | exact HI282.out))
                              (case side2 => repeat (first | (with_reducible first | exact HB.out | apply below_alloc | apply pw_below_drewN | apply below_drew1 | refine below_set ?_ (IsS51.ge HI282.out) | refine below_set ?_ GE310.out) | exact HB.out))
                              rintro e w47 ⟨rfl, hi, hb, hk⟩
                              refine ⟨_, rfl, ?_⟩
                              have n0_ := Aside0.mk (KeepBut.blk hk (g' := gb310) (o := .cells #[.int .i64 t293, .int .i64 t294] 33 (0, 0)) (by (with_reducible repeat (first | refine blk_drewN ?_ _ | refine blk_drew ?_ | refine blk_alloc ?_ _)); exact BK310.out) NB310_282.out (by simp))
                              have n1_ := Aside0.mk (hb)
                              have n2_ := Aside0.mk (hi)
                              clear BK310
                              clear HB
                              clear HI282
                              have BK310 := n0_
                              have HB := n1_
                              have HI282 := n2_
                              clear n0_ n1_ n2_
                              (try clear hb)
                              (try clear hb2)
                              (try clear hk)
                              (try clear hi)
                              (try clear hgn)
                              refine hK.out _ _ ⟨(blk_cell BK310.out 0).trans rfl, (blk_cell BK310.out 1).trans rfl⟩ (fun hHeld => ?_)
                              clear hK K
                              refine norm_ (a' := ?_) ?_ ?_
                              rotate_left
                              · show Act.put _ (some 93) _ = _
                                simp only [Act.put, List.setIfInBounds_toArray, List.set_cons_zero, List.set_cons_succ, i64_w, i32_w]
                                rfl
                              refine pure_ (i := 17) (N := some 95) (v := ?_) (a' := ?_) #[true, true, true, true, true, true, true, true, true, true, true, true, true, true, true, true, true, true, false, false] rfl rfl (any_of HT_.out (by kernel_rfl)) (fun _ _ _ h => h) (Or.inl ⟨by rfl, ?_⟩) ?_ ?_
                              rotate_left
                              · intro w'
                                go_simp
                                with_reducible rfl
                              rotate_left
                              · simp only [Act.put, List.setIfInBounds_toArray, List.set_cons_zero, List.set_cons_succ, i64_w, i32_w]
                                rfl
                              refine pure_ (i := 18) (N := some 96) (v := ?_) (a' := ?_) #[true, true, true, true, true, true, true, true, true, true, true, true, true, true, true, true, true, true, true, false] rfl rfl (any_of HT_.out (by kernel_rfl)) (fun _ _ _ h => h) (Or.inl ⟨by rfl, ?_⟩) ?_ ?_
                              rotate_left
                              · intro w'
                                go_simp
                                with_reducible rfl
                              rotate_left
                              · simp only [Act.put, List.setIfInBounds_toArray, List.set_cons_zero, List.set_cons_succ, i64_w, i32_w]
                                rfl
                              refine pure_ (i := 19) (N := some 97) (v := ?_) (a' := ?_) #[true, true, true, true, true, true, true, true, true, true, true, true, true, true, true, true, true, true, true, true] rfl rfl (any_of HT_.out (by kernel_rfl)) (fun _ _ _ h => h) (Or.inl ⟨by rfl, ?_⟩) ?_ ?_
                              rotate_left
                              · intro w'
                                go_simp
                                with_reducible rfl
                              rotate_left
                              · simp only [Act.put, List.setIfInBounds_toArray, List.set_cons_zero, List.set_cons_succ, i64_w, i32_w]
                                rfl
                              refine done_ (done_of HT_.out (by kernel_rfl)) ?_
                              try go_wp2
                              go_roundg kj17
                              case measure => have := HK1.out; have := HJ8.out; have := HJ17.out; omega
                              case rel => exact ⟨(wrap64 (x9_1 + 1)), (t368), (t369), (t370), (t371), (t372), (t373), (t374), (by first | rfl | (simp; done) | (simp [*]; done)), H', ⟨by have := HK1.out; have := HJ8.out; have := HJ17.out; omega⟩, ⟨by repeat (first | (with_reducible first | exact HI282.out | apply IsS51.alloc | apply IsS51.drewN | apply IsS51.drew | apply IsS51.set_0 | apply IsS51.set_1 | apply IsS51.set_2 | apply IsS51.set_3 | apply IsS51.set_4 | apply IsS51.set_5 | apply IsS51.set_6 | refine IsS51.far ?_ NB282_310.out _) | exact HI282.out)⟩, ⟨by repeat (first | (with_reducible first | exact HB.out | apply below_alloc | apply pw_below_drewN | apply below_drew1 | refine below_set ?_ (IsS51.ge HI282.out) | refine below_set ?_ GE310.out) | exact HB.out)⟩⟩
                            · rw [if_neg c43] at H
                              have c43b0 : (t367 == t302) = false := beq_eq_false_iff_ne.mpr c43
                              have c43b1 : (t367 != t302) = true := bne_iff_ne.mpr c43
                              exact absurd (Option.some.inj (H.trans (congrArg some hrt))) (by decide)
                        · rw [if_neg c39] at H
                          have c39b0 : (t350 == t285) = false := beq_eq_false_iff_ne.mpr c39
                          have c39b1 : (t350 != t285) = true := bne_iff_ne.mpr c39
                          exact absurd (Option.some.inj (H.trans (congrArg some hrt))) (by decide)
                · rw [if_neg c16] at H
                  exact absurd H (by simp)
              · rw [if_neg c15] at H
                exact absurd H (by simp)
            · replace c11 := Bool.eq_false_iff.mpr c11
              subst c11
              have H1 : ((scriptoriumlaw06_awake.f kj8).bind fun t284 => (some t284)) = some r := by rw [if_neg (show ¬ (false = true) by decide)] at H; exact H
              clear H
              have H := H1
              clear H1
              replace H := Option.bind_eq_some_iff.mp H
              obtain ⟨t284, A480, H⟩ := H
              replace H : (some t284) = some r := H
              have A48 := Aside0.mk A480
              clear A480
              obtain rfl := Option.some.inj H
              go_wp2_with (first | ((with_reducible refine gate_callee (f := 16) rfl ?_); refine goesL_ (some 98) rfl rfl Try.func16 (by kernel_rfl) rfl #[] rfl (by (try simp only [List.map_toArray, List.map_cons, List.map_nil]); first | done | rfl | (simp only [List.length_drop, List.length_take]; rfl)) ?_; (with_reducible refine (scriptoriumlaw06_awake.calls kj8  t284 _ A48.out).mono ?_); rintro e w49 ⟨rfl, hb⟩; refine ⟨_, rfl, ?_⟩; have n0_ := Aside0.mk (IsS51.below (by repeat (first | (with_reducible first | exact HI282.out | apply IsS51.alloc | apply IsS51.drewN | apply IsS51.drew | apply IsS51.set_0 | apply IsS51.set_1 | apply IsS51.set_2 | apply IsS51.set_3 | apply IsS51.set_4 | apply IsS51.set_5 | apply IsS51.set_6) | exact HI282.out)) hb); have n1_ := Aside0.mk (below_step (by repeat (first | (with_reducible first | exact HB.out | apply below_alloc | apply pw_below_drewN | apply below_drew1 | refine below_set ?_ (IsS51.ge HI282.out)) | exact HB.out)) hb); clear HI282; clear HB; have HI282 := n0_; have HB := n1_; clear n0_ n1_; (try clear hb); (try clear hb2); (try clear hk); (try clear hi); (try clear hgn)))
              go_ret
              exact ⟨by first | rfl | (simp [errW_none, errW_some] <;> rfl) | (simp [*, errW_none, errW_some] <;> rfl), by repeat (first | (with_reducible first | exact HB.out | apply below_alloc | apply pw_below_drewN | apply below_drew1 | refine below_set ?_ (IsS51.ge HI282.out)) | exact HB.out)⟩
  · rw [if_neg c7] at H
    have c7b0 : (t283 == 0) = false := beq_eq_false_iff_ne.mpr c7
    have c7b1 : (t283 != 0) = true := bne_iff_ne.mpr c7
    exact absurd (Option.some.inj (H.trans (congrArg some hrt))) (by decide)

/-- THE ONE PURE STATEMENT of scriptoriumlaw06_ClockStays: yours. -/
def scriptoriumlaw06_ClockStays.Pure : Prop := ∀ (a0 : Int) (a1 : Int) (a2 : List (S45)), (Lit.int .i64 a0).wf = true → (Lit.int .i64 a1).wf = true → (a2.length ≤ maxLen ∧ a2.length * 32 ≤ 140737488351232 ∧ ∀ y0 ∈ a2, ((Lit.int .i64 y0.f0).wf = true ∧ (Lit.int .i64 y0.f1).wf = true ∧ ((Lit.int .i64 y0.f2.f0).wf = true ∧ (Lit.int .i64 y0.f2.f1).wf = true))) → ∃ k, scriptoriumlaw06_ClockStays.f k a0 a1 a2 = some true
theorem scriptoriumlaw06_ClockStays.walk (P : scriptoriumlaw06_ClockStays.Pure) (a0 : Int) (a1 : Int) (a2 : List (S45)) (A2 : Option Addr) (c2 : Nat) (w : World) (w0 : (Lit.int .i64 a0).wf = true) (w1 : (Lit.int .i64 a1).wf = true) (w2 : (a2.length ≤ maxLen ∧ a2.length * 32 ≤ 140737488351232 ∧ ∀ y0 ∈ a2, ((Lit.int .i64 y0.f0).wf = true ∧ (Lit.int .i64 y0.f1).wf = true ∧ ((Lit.int .i64 y0.f2.f0).wf = true ∧ (Lit.int .i64 y0.f2.f1).wf = true)))) (hr2 : Kd.C k45 w A2 a2.length a2) (hc2 : a2.length ≤ c2) :
    Calls Try.prog 5 #[.int .i64 a0, .int .i64 a1, .slice A2 a2.length c2] w fun e w' => e = .returned (.bool true) ∧ Below w.heap.size w w' := by
  obtain ⟨k, h⟩ := P a0 a1 a2 w0 w1 w2
  refine (scriptoriumlaw06_ClockStays.calls k a0 a1 A2 c2 a2 true w hr2 hc2 h rfl).mono ?_
  rintro e w' ⟨rfl, hd⟩
  exact ⟨rfl, hd⟩

end Go.Proofs.Ythhgoiabkgfdfaa.PClockStays
