/- Written by xprint.py, a program of these sessions (over the print of the kit, with leaves typed by hand): one Lean function for each Go function, and the proof that the Go code comes to its answers. -/
import Derived.Test.YthhgoiabkgfdfaaPClockStaysx0
import Derived.Test.YthhgoiabkgfdfaaPClockStaysx1
import Derived.Test.YthhgoiabkgfdfaaPClockStaysx2
import Derived.Test.YthhgoiabkgfdfaaPClockStaysx3
import Derived.Test.YthhgoiabkgfdfaaPClockStaysx4
namespace Go.Proofs.Ythhgoiabkgfdfaa.PClockStays
open Go.RowKit Go.Proofs.YthhgoiabkgfdfaaW.PrintWords Go.Proofs.YthhgoiabkgfdfaaW.PrintLast Go.Proofs.YthhgoiabkgfdfaaW.PrintMore
attribute [local go_sem] max2_int min2_int max_two min_two max_three min_three max_four min_four   -- for this text's walks alone
attribute [local go_sem] fld_wall fld_logic
set_option linter.unusedVariables false
set_option linter.unusedSimpArgs false

attribute [local go_sem high] eqA33
/-! ### scriptoriumlaw06_awake: function 16 -/
mutual
def scriptoriumlaw06_awake_in.j0 : Nat → Bool → Int → Int → Int → Int → Int → Int → Bool → Option (Bool)
  | 0, _, _, _, _, _, _, _, _ => none
  | k + 1, x38, x147000, x147001, x147002, x147003, x147004, x147005, x147006 => if x38 = true then (some false) else ((clock_Clock_Raise.f x147000 x147001 x147002 x147003 x147004 x147005 x147006 50).bind fun bt182 => (if bt182.1 = 0 then ((clock_Clock_Set.f bt182.2.1 bt182.2.2.1 bt182.2.2.2.1 bt182.2.2.2.2.1 bt182.2.2.2.2.2.1 bt182.2.2.2.2.2.2.1 bt182.2.2.2.2.2.2.2 7).bind fun bt190 => (if bt190.1 = 0 then ((scriptoriumlaw06_tells.f bt190.2.1 bt190.2.2.1 bt190.2.2.2.1 bt190.2.2.2.2.1 bt190.2.2.2.2.2.1 bt190.2.2.2.2.2.2.1 bt190.2.2.2.2.2.2.2 7 0).bind fun bt198 => (if bt198.1 = true then ((scriptoriumlaw06_tells.f bt198.2.1 bt198.2.2.1 bt198.2.2.2.1 bt198.2.2.2.2.1 bt198.2.2.2.2.2.1 bt198.2.2.2.2.2.2.1 bt198.2.2.2.2.2.2.2 7 1).bind fun bt206 => (scriptoriumlaw06_awake_in.j1 k bt206.1 bt206.2.1 bt206.2.2.1 bt206.2.2.2.1 bt206.2.2.2.2.1 bt206.2.2.2.2.2.1 bt206.2.2.2.2.2.2.1 bt206.2.2.2.2.2.2.2)) else (scriptoriumlaw06_awake_in.j1 k false bt198.2.1 bt198.2.2.1 bt198.2.2.2.1 bt198.2.2.2.2.1 bt198.2.2.2.2.2.1 bt198.2.2.2.2.2.2.1 bt198.2.2.2.2.2.2.2))) else (scriptoriumlaw06_awake_in.j1 k false bt190.2.1 bt190.2.2.1 bt190.2.2.2.1 bt190.2.2.2.2.1 bt190.2.2.2.2.2.1 bt190.2.2.2.2.2.2.1 bt190.2.2.2.2.2.2.2))) else (scriptoriumlaw06_awake_in.j1 k false bt182.2.1 bt182.2.2.1 bt182.2.2.2.1 bt182.2.2.2.2.1 bt182.2.2.2.2.2.1 bt182.2.2.2.2.2.2.1 bt182.2.2.2.2.2.2.2)))
def scriptoriumlaw06_awake_in.j1 : Nat → Bool → Int → Int → Int → Int → Int → Int → Bool → Option (Bool)
  | 0, _, _, _, _, _, _, _, _ => none
  | k + 1, x5, x147000, x147001, x147002, x147003, x147004, x147005, x147006 => (clock_Clock_See.f x147000 x147001 x147002 x147003 x147004 x147005 x147006 17 3).bind fun bt214 => (if bt214.1 = 0 then ((scriptoriumlaw06_tells.f bt214.2.1 bt214.2.2.1 bt214.2.2.2.1 bt214.2.2.2.2.1 bt214.2.2.2.2.2.1 bt214.2.2.2.2.2.2.1 bt214.2.2.2.2.2.2.2 17 4).bind fun bt222 => (if bt222.1 = true then ((clock_Clock_See.f bt222.2.1 bt222.2.2.1 bt222.2.2.2.1 bt222.2.2.2.2.1 bt222.2.2.2.2.2.1 bt222.2.2.2.2.2.2.1 bt222.2.2.2.2.2.2.2 18 0).bind fun bt230 => (scriptoriumlaw06_awake_in.j2 k x5 (bt230.1 == 60) bt230.2.1 bt230.2.2.1 bt230.2.2.2.1 bt230.2.2.2.2.1 bt230.2.2.2.2.2.1 bt230.2.2.2.2.2.2.1 bt230.2.2.2.2.2.2.2)) else (scriptoriumlaw06_awake_in.j2 k x5 false bt222.2.1 bt222.2.2.1 bt222.2.2.2.1 bt222.2.2.2.2.1 bt222.2.2.2.2.2.1 bt222.2.2.2.2.2.2.1 bt222.2.2.2.2.2.2.2))) else (scriptoriumlaw06_awake_in.j2 k x5 false bt214.2.1 bt214.2.2.1 bt214.2.2.2.1 bt214.2.2.2.2.1 bt214.2.2.2.2.2.1 bt214.2.2.2.2.2.2.1 bt214.2.2.2.2.2.2.2))
def scriptoriumlaw06_awake_in.j2 : Nat → Bool → Bool → Int → Int → Int → Int → Int → Int → Bool → Option (Bool)
  | 0, _, _, _, _, _, _, _, _, _ => none
  | k + 1, x5, x6, x147000, x147001, x147002, x147003, x147004, x147005, x147006 => (clock_Clock_Set.f x147000 x147001 x147002 x147003 x147004 x147005 x147006 50).bind fun bt238 => ((clock_Clock_Now.f bt238.2.1 bt238.2.2.1 bt238.2.2.2.1 bt238.2.2.2.2.1 bt238.2.2.2.2.2.1 bt238.2.2.2.2.2.2.1 bt238.2.2.2.2.2.2.2).bind fun bt246 => (if x5 = true then (if x6 = true then (if bt238.1 = 0 then (if bt246.2.2.1 = 61 then ((clock_Clock_Raise.f bt246.2.2.2.1 bt246.2.2.2.2.1 bt246.2.2.2.2.2.1 bt246.2.2.2.2.2.2.1 bt246.2.2.2.2.2.2.2.1 bt246.2.2.2.2.2.2.2.2.1 bt246.2.2.2.2.2.2.2.2.2 60).bind fun bt257 => (if bt257.1 = 0 then ((scriptoriumlaw06_tells.f bt257.2.1 bt257.2.2.1 bt257.2.2.2.1 bt257.2.2.2.2.1 bt257.2.2.2.2.2.1 bt257.2.2.2.2.2.2.1 bt257.2.2.2.2.2.2.2 50 0).bind fun bt265 => (some bt265.1)) else (some false))) else (some false)) else (some false)) else (some false)) else (some false)))
end
def scriptoriumlaw06_awake_in.f (k : Nat)  : Option (Bool) := (clock_New.f 10 0).bind fun bt139 => ((clock_New.f 10 100).bind fun bt148 => (if bt139.2.2.2.2.2.2.2 = 0 then (if bt148.2.2.2.2.2.2.2 = 0 then ((clock_Clock_Last.f bt148.1 bt148.2.1 bt148.2.2.1 bt148.2.2.2.1 bt148.2.2.2.2.1 bt148.2.2.2.2.2.1 bt148.2.2.2.2.2.2.1).bind fun bt157 => (if (!(bt157.1 == 99) || (!(bt157.2.1 == 1048575))) = true then (scriptoriumlaw06_awake_in.j0 k true bt139.1 bt139.2.1 bt139.2.2.1 bt139.2.2.2.1 bt139.2.2.2.2.1 bt139.2.2.2.2.2.1 bt139.2.2.2.2.2.2.1) else ((clock_Clock_Ready.f bt157.2.2.1 bt157.2.2.2.1 bt157.2.2.2.2.1 bt157.2.2.2.2.2.1 bt157.2.2.2.2.2.2.1 bt157.2.2.2.2.2.2.2.1 bt157.2.2.2.2.2.2.2.2).bind fun bt166 => (if bt166.1 = true then (scriptoriumlaw06_awake_in.j0 k true bt139.1 bt139.2.1 bt139.2.2.1 bt139.2.2.2.1 bt139.2.2.2.2.1 bt139.2.2.2.2.2.1 bt139.2.2.2.2.2.2.1) else ((clock_Clock_Ready.f bt139.1 bt139.2.1 bt139.2.2.1 bt139.2.2.2.1 bt139.2.2.2.2.1 bt139.2.2.2.2.2.1 bt139.2.2.2.2.2.2.1).bind fun bt174 => (scriptoriumlaw06_awake_in.j0 k (!bt174.1) bt174.2.1 bt174.2.2.1 bt174.2.2.2.1 bt174.2.2.2.2.1 bt174.2.2.2.2.2.1 bt174.2.2.2.2.2.2.1 bt174.2.2.2.2.2.2.2)))))) else (scriptoriumlaw06_awake_in.j0 k true bt139.1 bt139.2.1 bt139.2.2.1 bt139.2.2.2.1 bt139.2.2.2.2.1 bt139.2.2.2.2.2.1 bt139.2.2.2.2.2.2.1)) else (scriptoriumlaw06_awake_in.j0 k true bt139.1 bt139.2.1 bt139.2.2.1 bt139.2.2.2.1 bt139.2.2.2.2.1 bt139.2.2.2.2.2.1 bt139.2.2.2.2.2.2.1)))
theorem scriptoriumlaw06_awake_in.mono_l : ∀ k, (∀ y0 y1 y2 y3 y4 y5 y6 y7, LeO (scriptoriumlaw06_awake_in.j0 k y0 y1 y2 y3 y4 y5 y6 y7) (scriptoriumlaw06_awake_in.j0 (k + 1) y0 y1 y2 y3 y4 y5 y6 y7)) ∧ (∀ y0 y1 y2 y3 y4 y5 y6 y7, LeO (scriptoriumlaw06_awake_in.j1 k y0 y1 y2 y3 y4 y5 y6 y7) (scriptoriumlaw06_awake_in.j1 (k + 1) y0 y1 y2 y3 y4 y5 y6 y7)) ∧ (∀ y0 y1 y2 y3 y4 y5 y6 y7 y8, LeO (scriptoriumlaw06_awake_in.j2 k y0 y1 y2 y3 y4 y5 y6 y7 y8) (scriptoriumlaw06_awake_in.j2 (k + 1) y0 y1 y2 y3 y4 y5 y6 y7 y8))
  | 0 => ⟨fun _ _ _ _ _ _ _ _ r h => by simp [scriptoriumlaw06_awake_in.j0] at h, fun _ _ _ _ _ _ _ _ r h => by simp [scriptoriumlaw06_awake_in.j1] at h, fun _ _ _ _ _ _ _ _ _ r h => by simp [scriptoriumlaw06_awake_in.j2] at h⟩
  | k + 1 => by
    obtain ⟨ih0, ih1, ih2⟩ := scriptoriumlaw06_awake_in.mono_l k
    refine ⟨?_, ?_, ?_⟩
    · intro y0 y1 y2 y3 y4 y5 y6 y7
      unfold scriptoriumlaw06_awake_in.j0
      repeat' first
      | (with_reducible exact ih0 _ _ _ _ _ _ _ _)
      | (with_reducible exact ih1 _ _ _ _ _ _ _ _)
      | (with_reducible exact ih2 _ _ _ _ _ _ _ _ _)
      | (with_reducible exact LeO.refl _)
      | (with_reducible exact LeO.none _)
      | (with_reducible refine LeO.ite ?_ ?_)
      | (with_reducible refine LeO.bind ?_ (fun _ => ?_))
      | exact ih0 _ _ _ _ _ _ _ _
      | exact ih1 _ _ _ _ _ _ _ _
      | exact ih2 _ _ _ _ _ _ _ _ _
      | exact LeO.none _
      | refine LeO.ite ?_ ?_
      | refine LeO.bind ?_ (fun _ => ?_)
    · intro y0 y1 y2 y3 y4 y5 y6 y7
      unfold scriptoriumlaw06_awake_in.j1
      repeat' first
      | (with_reducible exact ih0 _ _ _ _ _ _ _ _)
      | (with_reducible exact ih1 _ _ _ _ _ _ _ _)
      | (with_reducible exact ih2 _ _ _ _ _ _ _ _ _)
      | (with_reducible exact LeO.refl _)
      | (with_reducible exact LeO.none _)
      | (with_reducible refine LeO.ite ?_ ?_)
      | (with_reducible refine LeO.bind ?_ (fun _ => ?_))
      | exact ih0 _ _ _ _ _ _ _ _
      | exact ih1 _ _ _ _ _ _ _ _
      | exact ih2 _ _ _ _ _ _ _ _ _
      | exact LeO.none _
      | refine LeO.ite ?_ ?_
      | refine LeO.bind ?_ (fun _ => ?_)
    · intro y0 y1 y2 y3 y4 y5 y6 y7 y8
      unfold scriptoriumlaw06_awake_in.j2
      repeat' first
      | (with_reducible exact ih0 _ _ _ _ _ _ _ _)
      | (with_reducible exact ih1 _ _ _ _ _ _ _ _)
      | (with_reducible exact ih2 _ _ _ _ _ _ _ _ _)
      | (with_reducible exact LeO.refl _)
      | (with_reducible exact LeO.none _)
      | (with_reducible refine LeO.ite ?_ ?_)
      | (with_reducible refine LeO.bind ?_ (fun _ => ?_))
      | exact ih0 _ _ _ _ _ _ _ _
      | exact ih1 _ _ _ _ _ _ _ _
      | exact ih2 _ _ _ _ _ _ _ _ _
      | exact LeO.none _
      | refine LeO.ite ?_ ?_
      | refine LeO.bind ?_ (fun _ => ?_)
theorem scriptoriumlaw06_awake_in.mono : ∀ k, LeO (scriptoriumlaw06_awake_in.f k ) (scriptoriumlaw06_awake_in.f (k + 1) ) := by
  intro  k
  obtain ⟨ih0, ih1, ih2⟩ := scriptoriumlaw06_awake_in.mono_l k
  unfold scriptoriumlaw06_awake_in.f
  repeat' first
      | (with_reducible exact ih0 _ _ _ _ _ _ _ _)
      | (with_reducible exact ih1 _ _ _ _ _ _ _ _)
      | (with_reducible exact ih2 _ _ _ _ _ _ _ _ _)
      | (with_reducible exact LeO.refl _)
      | (with_reducible exact LeO.none _)
      | (with_reducible refine LeO.ite ?_ ?_)
      | (with_reducible refine LeO.bind ?_ (fun _ => ?_))
      | exact ih0 _ _ _ _ _ _ _ _
      | exact ih1 _ _ _ _ _ _ _ _
      | exact ih2 _ _ _ _ _ _ _ _ _
      | exact LeO.none _
      | refine LeO.ite ?_ ?_
      | refine LeO.bind ?_ (fun _ => ?_)
set_option maxHeartbeats 8000000 in
set_option maxRecDepth 100000 in
theorem scriptoriumlaw06_awake_in.calls (k : Nat)  (r : Bool) (w : World) (h : scriptoriumlaw06_awake_in.f k  = some r) (hrt : r = true) :
    Calls Try.prog 16 #[] w fun e w' => e = .returned (.bool r) ∧ Below w.heap.size w w' := by
  have hu33 := Try.underlying33
  have HB := Aside0.mk (Below.refl w.heap.size w)
  have H : ((clock_New.f 10 0).bind fun bt139 => ((clock_New.f 10 100).bind fun bt148 => (if bt139.2.2.2.2.2.2.2 = 0 then (if bt148.2.2.2.2.2.2.2 = 0 then ((clock_Clock_Last.f bt148.1 bt148.2.1 bt148.2.2.1 bt148.2.2.2.1 bt148.2.2.2.2.1 bt148.2.2.2.2.2.1 bt148.2.2.2.2.2.2.1).bind fun bt157 => (if (!(bt157.1 == 99) || (!(bt157.2.1 == 1048575))) = true then (scriptoriumlaw06_awake_in.j0 k true bt139.1 bt139.2.1 bt139.2.2.1 bt139.2.2.2.1 bt139.2.2.2.2.1 bt139.2.2.2.2.2.1 bt139.2.2.2.2.2.2.1) else ((clock_Clock_Ready.f bt157.2.2.1 bt157.2.2.2.1 bt157.2.2.2.2.1 bt157.2.2.2.2.2.1 bt157.2.2.2.2.2.2.1 bt157.2.2.2.2.2.2.2.1 bt157.2.2.2.2.2.2.2.2).bind fun bt166 => (if bt166.1 = true then (scriptoriumlaw06_awake_in.j0 k true bt139.1 bt139.2.1 bt139.2.2.1 bt139.2.2.2.1 bt139.2.2.2.2.1 bt139.2.2.2.2.2.1 bt139.2.2.2.2.2.2.1) else ((clock_Clock_Ready.f bt139.1 bt139.2.1 bt139.2.2.1 bt139.2.2.2.1 bt139.2.2.2.2.1 bt139.2.2.2.2.2.1 bt139.2.2.2.2.2.2.1).bind fun bt174 => (scriptoriumlaw06_awake_in.j0 k (!bt174.1) bt174.2.1 bt174.2.2.1 bt174.2.2.2.1 bt174.2.2.2.2.1 bt174.2.2.2.2.2.1 bt174.2.2.2.2.2.2.1 bt174.2.2.2.2.2.2.2)))))) else (scriptoriumlaw06_awake_in.j0 k true bt139.1 bt139.2.1 bt139.2.2.1 bt139.2.2.2.1 bt139.2.2.2.2.1 bt139.2.2.2.2.2.1 bt139.2.2.2.2.2.2.1)) else (scriptoriumlaw06_awake_in.j0 k true bt139.1 bt139.2.1 bt139.2.2.1 bt139.2.2.2.1 bt139.2.2.2.2.1 bt139.2.2.2.2.2.1 bt139.2.2.2.2.2.2.1)))) = some r := h
  clear h
  replace H := Option.bind_eq_some_iff.mp H
  obtain ⟨⟨t139, t140, t141, t142, t143, t144, t145, t147⟩, A10, H⟩ := H
  replace H : ((clock_New.f 10 100).bind fun bt148 => (if t147 = 0 then (if bt148.2.2.2.2.2.2.2 = 0 then ((clock_Clock_Last.f bt148.1 bt148.2.1 bt148.2.2.1 bt148.2.2.2.1 bt148.2.2.2.2.1 bt148.2.2.2.2.2.1 bt148.2.2.2.2.2.2.1).bind fun bt157 => (if (!(bt157.1 == 99) || (!(bt157.2.1 == 1048575))) = true then (scriptoriumlaw06_awake_in.j0 k true t139 t140 t141 t142 t143 t144 t145) else ((clock_Clock_Ready.f bt157.2.2.1 bt157.2.2.2.1 bt157.2.2.2.2.1 bt157.2.2.2.2.2.1 bt157.2.2.2.2.2.2.1 bt157.2.2.2.2.2.2.2.1 bt157.2.2.2.2.2.2.2.2).bind fun bt166 => (if bt166.1 = true then (scriptoriumlaw06_awake_in.j0 k true t139 t140 t141 t142 t143 t144 t145) else ((clock_Clock_Ready.f t139 t140 t141 t142 t143 t144 t145).bind fun bt174 => (scriptoriumlaw06_awake_in.j0 k (!bt174.1) bt174.2.1 bt174.2.2.1 bt174.2.2.2.1 bt174.2.2.2.2.1 bt174.2.2.2.2.2.1 bt174.2.2.2.2.2.2.1 bt174.2.2.2.2.2.2.2)))))) else (scriptoriumlaw06_awake_in.j0 k true t139 t140 t141 t142 t143 t144 t145)) else (scriptoriumlaw06_awake_in.j0 k true t139 t140 t141 t142 t143 t144 t145))) = some r := H
  have A1 := Aside0.mk A10
  clear A10
  replace H := Option.bind_eq_some_iff.mp H
  obtain ⟨⟨t148, t149, t150, t151, t152, t153, t154, t156⟩, A20, H⟩ := H
  replace H : (if t147 = 0 then (if t156 = 0 then ((clock_Clock_Last.f t148 t149 t150 t151 t152 t153 t154).bind fun bt157 => (if (!(bt157.1 == 99) || (!(bt157.2.1 == 1048575))) = true then (scriptoriumlaw06_awake_in.j0 k true t139 t140 t141 t142 t143 t144 t145) else ((clock_Clock_Ready.f bt157.2.2.1 bt157.2.2.2.1 bt157.2.2.2.2.1 bt157.2.2.2.2.2.1 bt157.2.2.2.2.2.2.1 bt157.2.2.2.2.2.2.2.1 bt157.2.2.2.2.2.2.2.2).bind fun bt166 => (if bt166.1 = true then (scriptoriumlaw06_awake_in.j0 k true t139 t140 t141 t142 t143 t144 t145) else ((clock_Clock_Ready.f t139 t140 t141 t142 t143 t144 t145).bind fun bt174 => (scriptoriumlaw06_awake_in.j0 k (!bt174.1) bt174.2.1 bt174.2.2.1 bt174.2.2.2.1 bt174.2.2.2.2.1 bt174.2.2.2.2.2.1 bt174.2.2.2.2.2.2.1 bt174.2.2.2.2.2.2.2)))))) else (scriptoriumlaw06_awake_in.j0 k true t139 t140 t141 t142 t143 t144 t145)) else (scriptoriumlaw06_awake_in.j0 k true t139 t140 t141 t142 t143 t144 t145)) = some r := H
  have A2 := Aside0.mk A20
  clear A20
  have HC3 := Aside0.mk H
  clear H
  go_enter Try.func16, Try.ntmps16
  go_upto_region 3 with (first | ((with_reducible refine gate_callee (f := 9) rfl ?_); refine goesL_ (some 11) rfl rfl Try.func9 (by kernel_rfl) rfl #[.int .i64 10, .int .i64 0] rfl (by (try simp only [List.map_toArray, List.map_cons, List.map_nil]); first | done | rfl | (simp only [List.length_drop, List.length_take]; rfl)) ?_; (with_reducible refine (clock_New.calls 10 0 t139 t140 t141 t142 t143 t144 t145 t147 w _ ?side1 A1.out).mono ?_); (case side1 => repeat (first | (with_reducible first | exact HB.out | apply below_alloc | apply pw_below_drewN | apply below_drew1) | exact HB.out)); rintro e w4 ⟨g146, rfl, hi, hb, hb2, hgn⟩; refine ⟨_, rfl, ?_⟩; have n0_ := Aside0.mk (hb); have n1_ := Aside0.mk (hi); clear HB; have HB := n0_; have HI146 := n1_; clear n0_ n1_; (try clear hb); (try clear hb2); (try clear hk); (try clear hi); (try clear hgn)) | ((with_reducible refine gate_callee (f := 9) rfl ?_); refine goesL_ (some 15) rfl rfl Try.func9 (by kernel_rfl) rfl #[.int .i64 10, .int .i64 100] rfl (by (try simp only [List.map_toArray, List.map_cons, List.map_nil]); first | done | rfl | (simp only [List.length_drop, List.length_take]; rfl)) ?_; (with_reducible refine (clock_New.calls 10 100 t148 t149 t150 t151 t152 t153 t154 t156 w _ ?side1 A2.out).mono ?_); (case side1 => repeat (first | (with_reducible first | exact HB.out | apply below_alloc | apply pw_below_drewN | apply below_drew1 | refine below_set ?_ (IsS51.ge HI146.out)) | exact HB.out)); rintro e w5 ⟨g155, rfl, hi, hb, hb2, hgn⟩; refine ⟨_, rfl, ?_⟩; have n0_ := Aside0.mk (IsS51.below (by repeat (first | (with_reducible first | exact HI146.out | apply IsS51.alloc | apply IsS51.drewN | apply IsS51.drew | apply IsS51.set_0 | apply IsS51.set_1 | apply IsS51.set_2 | apply IsS51.set_3 | apply IsS51.set_4 | apply IsS51.set_5 | apply IsS51.set_6) | exact HI146.out)) hb2); have n1_ := Aside0.mk ((Nat.ne_of_lt (Nat.lt_of_lt_of_le (IsS51.lt (show IsS51 w _ g146 t139 t140 t141 t142 t143 t144 t145 from by repeat (first | (with_reducible first | exact HI146.out | apply IsS51.alloc | apply IsS51.drewN | apply IsS51.drew | apply IsS51.set_0 | apply IsS51.set_1 | apply IsS51.set_2 | apply IsS51.set_3 | apply IsS51.set_4 | apply IsS51.set_5 | apply IsS51.set_6) | exact HI146.out))) hgn) : g146 ≠ g155)); have n2_ := Aside0.mk ((Nat.ne_of_gt (Nat.lt_of_lt_of_le (IsS51.lt (show IsS51 w _ g146 t139 t140 t141 t142 t143 t144 t145 from by repeat (first | (with_reducible first | exact HI146.out | apply IsS51.alloc | apply IsS51.drewN | apply IsS51.drew | apply IsS51.set_0 | apply IsS51.set_1 | apply IsS51.set_2 | apply IsS51.set_3 | apply IsS51.set_4 | apply IsS51.set_5 | apply IsS51.set_6) | exact HI146.out))) hgn) : g155 ≠ g146)); have n3_ := Aside0.mk (hb); have n4_ := Aside0.mk (hi); clear HI146; clear HB; have HI146 := n0_; have NB146_155 := n1_; have NB155_146 := n2_; have HB := n3_; have HI155 := n4_; clear n0_ n1_ n2_ n3_ n4_; (try clear hb); (try clear hb2); (try clear hk); (try clear hi); (try clear hgn)))
  (try simp only [Act.put, List.setIfInBounds_toArray, List.set_cons_zero, List.set_cons_succ])
  go_cut [38] (fun v38 wc => ∃ (kq : Nat) (x38_2 : Bool) (x147000_2 : Int) (x147001_2 : Int) (x147002_2 : Int) (x147003_2 : Int) (x147004_2 : Int) (x147005_2 : Int) (x147006_2 : Bool), v38 = .bool x38_2 ∧ Aside0 (scriptoriumlaw06_awake_in.j0 kq x38_2 x147000_2 x147001_2 x147002_2 x147003_2 x147004_2 x147005_2 x147006_2 = some r) ∧ Aside0 (kq ≤ k) ∧ Aside0 (IsS51 w wc g146 x147000_2 x147001_2 x147002_2 x147003_2 x147004_2 x147005_2 x147006_2) ∧ Aside0 (Below w.heap.size w wc))
  case first =>
    have H := HC3.out
    clear HC3
    by_cases c6 : t147 = 0
    · rw [if_pos c6] at H
      have c6b0 : (t147 == 0) = true := beq_iff_eq.mpr c6
      have c6b1 : (t147 != 0) = false := bne_eq_false_iff_eq.mpr c6
      clear c6
      (first | rw [c6b0] | (simp only [i64_w, i32_w]; rw [c6b0]) | skip)
      by_cases c7 : t156 = 0
      · rw [if_pos c7] at H
        have c7b0 : (t156 == 0) = true := beq_iff_eq.mpr c7
        have c7b1 : (t156 != 0) = false := bne_eq_false_iff_eq.mpr c7
        clear c7
        replace H := Option.bind_eq_some_iff.mp H
        obtain ⟨⟨t157, t158, t159, t160, t161, t162, t163, t164, t165⟩, A80, H⟩ := H
        replace H : (if (!(t157 == 99) || (!(t158 == 1048575))) = true then (scriptoriumlaw06_awake_in.j0 k true t139 t140 t141 t142 t143 t144 t145) else ((clock_Clock_Ready.f t159 t160 t161 t162 t163 t164 t165).bind fun bt166 => (if bt166.1 = true then (scriptoriumlaw06_awake_in.j0 k true t139 t140 t141 t142 t143 t144 t145) else ((clock_Clock_Ready.f t139 t140 t141 t142 t143 t144 t145).bind fun bt174 => (scriptoriumlaw06_awake_in.j0 k (!bt174.1) bt174.2.1 bt174.2.2.1 bt174.2.2.2.1 bt174.2.2.2.2.1 bt174.2.2.2.2.2.1 bt174.2.2.2.2.2.2.1 bt174.2.2.2.2.2.2.2))))) = some r := H
        have A8 := Aside0.mk A80
        clear A80
        by_cases c9 : (!(t157 == 99) || (!(t158 == 1048575))) = true
        · rw [if_pos c9] at H
          have c9b0 : (!(t157 == 99) || (!(t158 == 1048575))) = true := c9
          clear c9
          have H' := Aside0.mk H
          clear H
          go_wp2_with (first | (go_at_call 21; (with_reducible refine (clock_Clock_Last.calls g155 t148 t149 t150 t151 t152 t153 t154 t157 t158 t159 t160 t161 t162 t163 t164 t165 w _ ?side1 ?side2 A8.out).mono ?_); (case side1 => repeat (first | (with_reducible first | exact HI155.out | apply IsS51.alloc | apply IsS51.drewN | apply IsS51.drew | apply IsS51.set_0 | apply IsS51.set_1 | apply IsS51.set_2 | apply IsS51.set_3 | apply IsS51.set_4 | apply IsS51.set_5 | apply IsS51.set_6) | exact HI155.out)); (case side2 => repeat (first | (with_reducible first | exact HB.out | apply below_alloc | apply pw_below_drewN | apply below_drew1 | refine below_set ?_ (IsS51.ge HI146.out) | refine below_set ?_ (IsS51.ge HI155.out)) | exact HB.out)); rintro e w10 ⟨rfl, hi, hb, hk⟩; have n0_ := Aside0.mk (IsS51.keepB (by repeat (first | (with_reducible first | exact HI146.out | apply IsS51.alloc | apply IsS51.drewN | apply IsS51.drew | apply IsS51.set_0 | apply IsS51.set_1 | apply IsS51.set_2 | apply IsS51.set_3 | apply IsS51.set_4 | apply IsS51.set_5 | apply IsS51.set_6) | exact HI146.out)) hk NB146_155.out); have n1_ := Aside0.mk (hb); have n2_ := Aside0.mk (hi); clear HI146; clear HB; clear HI155; have HI146 := n0_; have HB := n1_; have HI155 := n2_; clear n0_ n1_ n2_; (try clear hb); (try clear hb2); (try clear hk); (try clear hi); (try clear hgn)))
          go_meet
          case rel => exact ⟨_, (true), (t139), (t140), (t141), (t142), (t143), (t144), (t145), (by first | rfl | (simp; done) | (simp [*]; done)), H', ⟨by first | omega | exact Nat.le_refl _⟩, ⟨by repeat (first | (with_reducible first | exact HI146.out | apply IsS51.alloc | apply IsS51.drewN | apply IsS51.drew | apply IsS51.set_0 | apply IsS51.set_1 | apply IsS51.set_2 | apply IsS51.set_3 | apply IsS51.set_4 | apply IsS51.set_5 | apply IsS51.set_6) | exact HI146.out)⟩, ⟨by repeat (first | (with_reducible first | exact HB.out | apply below_alloc | apply pw_below_drewN | apply below_drew1 | refine below_set ?_ (IsS51.ge HI146.out) | refine below_set ?_ (IsS51.ge HI155.out)) | exact HB.out)⟩⟩
        · rw [if_neg c9] at H
          have c9b0 : (!(t157 == 99) || (!(t158 == 1048575))) = false := by simpa using c9
          clear c9
          replace H := Option.bind_eq_some_iff.mp H
          obtain ⟨⟨t166, t167, t168, t169, t170, t171, t172, t173⟩, A110, H⟩ := H
          replace H : (if t166 = true then (scriptoriumlaw06_awake_in.j0 k true t139 t140 t141 t142 t143 t144 t145) else ((clock_Clock_Ready.f t139 t140 t141 t142 t143 t144 t145).bind fun bt174 => (scriptoriumlaw06_awake_in.j0 k (!bt174.1) bt174.2.1 bt174.2.2.1 bt174.2.2.2.1 bt174.2.2.2.2.1 bt174.2.2.2.2.2.1 bt174.2.2.2.2.2.2.1 bt174.2.2.2.2.2.2.2))) = some r := H
          have A11 := Aside0.mk A110
          clear A110
          by_cases c12 : t166 = true
          · subst c12
            have H1 : (scriptoriumlaw06_awake_in.j0 k true t139 t140 t141 t142 t143 t144 t145) = some r := by rw [if_pos rfl] at H; exact H
            clear H
            have H := H1
            clear H1
            have H' := Aside0.mk H
            clear H
            go_wp2_with (first | (go_at_call 21; (with_reducible refine (clock_Clock_Last.calls g155 t148 t149 t150 t151 t152 t153 t154 t157 t158 t159 t160 t161 t162 t163 t164 t165 w _ ?side1 ?side2 A8.out).mono ?_); (case side1 => repeat (first | (with_reducible first | exact HI155.out | apply IsS51.alloc | apply IsS51.drewN | apply IsS51.drew | apply IsS51.set_0 | apply IsS51.set_1 | apply IsS51.set_2 | apply IsS51.set_3 | apply IsS51.set_4 | apply IsS51.set_5 | apply IsS51.set_6) | exact HI155.out)); (case side2 => repeat (first | (with_reducible first | exact HB.out | apply below_alloc | apply pw_below_drewN | apply below_drew1 | refine below_set ?_ (IsS51.ge HI146.out) | refine below_set ?_ (IsS51.ge HI155.out)) | exact HB.out)); rintro e w13 ⟨rfl, hi, hb, hk⟩; have n0_ := Aside0.mk (IsS51.keepB (by repeat (first | (with_reducible first | exact HI146.out | apply IsS51.alloc | apply IsS51.drewN | apply IsS51.drew | apply IsS51.set_0 | apply IsS51.set_1 | apply IsS51.set_2 | apply IsS51.set_3 | apply IsS51.set_4 | apply IsS51.set_5 | apply IsS51.set_6) | exact HI146.out)) hk NB146_155.out); have n1_ := Aside0.mk (hb); have n2_ := Aside0.mk (hi); clear HI146; clear HB; clear HI155; have HI146 := n0_; have HB := n1_; have HI155 := n2_; clear n0_ n1_ n2_; (try clear hb); (try clear hb2); (try clear hk); (try clear hi); (try clear hgn)) | (go_at_call 19; (with_reducible refine (clock_Clock_Ready.calls g155 t159 t160 t161 t162 t163 t164 t165 true t167 t168 t169 t170 t171 t172 t173 w _ ?side1 ?side2 A11.out).mono ?_); (case side1 => repeat (first | (with_reducible first | exact HI155.out | apply IsS51.alloc | apply IsS51.drewN | apply IsS51.drew | apply IsS51.set_0 | apply IsS51.set_1 | apply IsS51.set_2 | apply IsS51.set_3 | apply IsS51.set_4 | apply IsS51.set_5 | apply IsS51.set_6) | exact HI155.out)); (case side2 => repeat (first | (with_reducible first | exact HB.out | apply below_alloc | apply pw_below_drewN | apply below_drew1 | refine below_set ?_ (IsS51.ge HI146.out) | refine below_set ?_ (IsS51.ge HI155.out)) | exact HB.out)); rintro e w14 ⟨rfl, hi, hb, hk⟩; have n0_ := Aside0.mk (IsS51.keepB (by repeat (first | (with_reducible first | exact HI146.out | apply IsS51.alloc | apply IsS51.drewN | apply IsS51.drew | apply IsS51.set_0 | apply IsS51.set_1 | apply IsS51.set_2 | apply IsS51.set_3 | apply IsS51.set_4 | apply IsS51.set_5 | apply IsS51.set_6) | exact HI146.out)) hk NB146_155.out); have n1_ := Aside0.mk (hb); have n2_ := Aside0.mk (hi); clear HI146; clear HB; clear HI155; have HI146 := n0_; have HB := n1_; have HI155 := n2_; clear n0_ n1_ n2_; (try clear hb); (try clear hb2); (try clear hk); (try clear hi); (try clear hgn)))
            go_meet
            case rel => exact ⟨_, (true), (t139), (t140), (t141), (t142), (t143), (t144), (t145), (by first | rfl | (simp; done) | (simp [*]; done)), H', ⟨by first | omega | exact Nat.le_refl _⟩, ⟨by repeat (first | (with_reducible first | exact HI146.out | apply IsS51.alloc | apply IsS51.drewN | apply IsS51.drew | apply IsS51.set_0 | apply IsS51.set_1 | apply IsS51.set_2 | apply IsS51.set_3 | apply IsS51.set_4 | apply IsS51.set_5 | apply IsS51.set_6) | exact HI146.out)⟩, ⟨by repeat (first | (with_reducible first | exact HB.out | apply below_alloc | apply pw_below_drewN | apply below_drew1 | refine below_set ?_ (IsS51.ge HI146.out) | refine below_set ?_ (IsS51.ge HI155.out)) | exact HB.out)⟩⟩
          · replace c12 := Bool.eq_false_iff.mpr c12
            subst c12
            have H1 : ((clock_Clock_Ready.f t139 t140 t141 t142 t143 t144 t145).bind fun bt174 => (scriptoriumlaw06_awake_in.j0 k (!bt174.1) bt174.2.1 bt174.2.2.1 bt174.2.2.2.1 bt174.2.2.2.2.1 bt174.2.2.2.2.2.1 bt174.2.2.2.2.2.2.1 bt174.2.2.2.2.2.2.2)) = some r := by rw [if_neg (show ¬ (false = true) by decide)] at H; exact H
            clear H
            have H := H1
            clear H1
            replace H := Option.bind_eq_some_iff.mp H
            obtain ⟨⟨t174, t175, t176, t177, t178, t179, t180, t181⟩, A150, H⟩ := H
            replace H : (scriptoriumlaw06_awake_in.j0 k (!t174) t175 t176 t177 t178 t179 t180 t181) = some r := H
            have A15 := Aside0.mk A150
            clear A150
            have H' := Aside0.mk H
            clear H
            go_wp2_with (first | (go_at_call 21; (with_reducible refine (clock_Clock_Last.calls g155 t148 t149 t150 t151 t152 t153 t154 t157 t158 t159 t160 t161 t162 t163 t164 t165 w _ ?side1 ?side2 A8.out).mono ?_); (case side1 => repeat (first | (with_reducible first | exact HI155.out | apply IsS51.alloc | apply IsS51.drewN | apply IsS51.drew | apply IsS51.set_0 | apply IsS51.set_1 | apply IsS51.set_2 | apply IsS51.set_3 | apply IsS51.set_4 | apply IsS51.set_5 | apply IsS51.set_6) | exact HI155.out)); (case side2 => repeat (first | (with_reducible first | exact HB.out | apply below_alloc | apply pw_below_drewN | apply below_drew1 | refine below_set ?_ (IsS51.ge HI146.out) | refine below_set ?_ (IsS51.ge HI155.out)) | exact HB.out)); rintro e w16 ⟨rfl, hi, hb, hk⟩; have n0_ := Aside0.mk (IsS51.keepB (by repeat (first | (with_reducible first | exact HI146.out | apply IsS51.alloc | apply IsS51.drewN | apply IsS51.drew | apply IsS51.set_0 | apply IsS51.set_1 | apply IsS51.set_2 | apply IsS51.set_3 | apply IsS51.set_4 | apply IsS51.set_5 | apply IsS51.set_6) | exact HI146.out)) hk NB146_155.out); have n1_ := Aside0.mk (hb); have n2_ := Aside0.mk (hi); clear HI146; clear HB; clear HI155; have HI146 := n0_; have HB := n1_; have HI155 := n2_; clear n0_ n1_ n2_; (try clear hb); (try clear hb2); (try clear hk); (try clear hi); (try clear hgn)) | (go_at_call 19; (with_reducible refine (clock_Clock_Ready.calls g155 t159 t160 t161 t162 t163 t164 t165 false t167 t168 t169 t170 t171 t172 t173 w _ ?side1 ?side2 A11.out).mono ?_); (case side1 => repeat (first | (with_reducible first | exact HI155.out | apply IsS51.alloc | apply IsS51.drewN | apply IsS51.drew | apply IsS51.set_0 | apply IsS51.set_1 | apply IsS51.set_2 | apply IsS51.set_3 | apply IsS51.set_4 | apply IsS51.set_5 | apply IsS51.set_6) | exact HI155.out)); (case side2 => repeat (first | (with_reducible first | exact HB.out | apply below_alloc | apply pw_below_drewN | apply below_drew1 | refine below_set ?_ (IsS51.ge HI146.out) | refine below_set ?_ (IsS51.ge HI155.out)) | exact HB.out)); rintro e w17 ⟨rfl, hi, hb, hk⟩; have n0_ := Aside0.mk (IsS51.keepB (by repeat (first | (with_reducible first | exact HI146.out | apply IsS51.alloc | apply IsS51.drewN | apply IsS51.drew | apply IsS51.set_0 | apply IsS51.set_1 | apply IsS51.set_2 | apply IsS51.set_3 | apply IsS51.set_4 | apply IsS51.set_5 | apply IsS51.set_6) | exact HI146.out)) hk NB146_155.out); have n1_ := Aside0.mk (hb); have n2_ := Aside0.mk (hi); clear HI146; clear HB; clear HI155; have HI146 := n0_; have HB := n1_; have HI155 := n2_; clear n0_ n1_ n2_; (try clear hb); (try clear hb2); (try clear hk); (try clear hi); (try clear hgn)) | (go_at_call 19; (with_reducible refine (clock_Clock_Ready.calls g146 t139 t140 t141 t142 t143 t144 t145 t174 t175 t176 t177 t178 t179 t180 t181 w _ ?side1 ?side2 A15.out).mono ?_); (case side1 => repeat (first | (with_reducible first | exact HI146.out | apply IsS51.alloc | apply IsS51.drewN | apply IsS51.drew | apply IsS51.set_0 | apply IsS51.set_1 | apply IsS51.set_2 | apply IsS51.set_3 | apply IsS51.set_4 | apply IsS51.set_5 | apply IsS51.set_6) | exact HI146.out)); (case side2 => repeat (first | (with_reducible first | exact HB.out | apply below_alloc | apply pw_below_drewN | apply below_drew1 | refine below_set ?_ (IsS51.ge HI146.out) | refine below_set ?_ (IsS51.ge HI155.out)) | exact HB.out)); rintro e w18 ⟨rfl, hi, hb, hk⟩; have n0_ := Aside0.mk (IsS51.keepB (by repeat (first | (with_reducible first | exact HI155.out | apply IsS51.alloc | apply IsS51.drewN | apply IsS51.drew | apply IsS51.set_0 | apply IsS51.set_1 | apply IsS51.set_2 | apply IsS51.set_3 | apply IsS51.set_4 | apply IsS51.set_5 | apply IsS51.set_6) | exact HI155.out)) hk NB155_146.out); have n1_ := Aside0.mk (hb); have n2_ := Aside0.mk (hi); clear HI155; clear HB; clear HI146; have HI155 := n0_; have HB := n1_; have HI146 := n2_; clear n0_ n1_ n2_; (try clear hb); (try clear hb2); (try clear hk); (try clear hi); (try clear hgn)))
            go_meet
            case rel => exact ⟨_, (!t174), (t175), (t176), (t177), (t178), (t179), (t180), (t181), (by first | rfl | (simp; done) | (simp [*]; done)), H', ⟨by first | omega | exact Nat.le_refl _⟩, ⟨by repeat (first | (with_reducible first | exact HI146.out | apply IsS51.alloc | apply IsS51.drewN | apply IsS51.drew | apply IsS51.set_0 | apply IsS51.set_1 | apply IsS51.set_2 | apply IsS51.set_3 | apply IsS51.set_4 | apply IsS51.set_5 | apply IsS51.set_6) | exact HI146.out)⟩, ⟨by repeat (first | (with_reducible first | exact HB.out | apply below_alloc | apply pw_below_drewN | apply below_drew1 | refine below_set ?_ (IsS51.ge HI146.out) | refine below_set ?_ (IsS51.ge HI155.out)) | exact HB.out)⟩⟩
      · rw [if_neg c7] at H
        have c7b0 : (t156 == 0) = false := beq_eq_false_iff_ne.mpr c7
        have c7b1 : (t156 != 0) = true := bne_iff_ne.mpr c7
        have H' := Aside0.mk H
        clear H
        go_wp2
        go_meet
        case rel => exact ⟨_, (true), (t139), (t140), (t141), (t142), (t143), (t144), (t145), (by first | rfl | (simp; done) | (simp [*]; done)), H', ⟨by first | omega | exact Nat.le_refl _⟩, ⟨by repeat (first | (with_reducible first | exact HI146.out | apply IsS51.alloc | apply IsS51.drewN | apply IsS51.drew | apply IsS51.set_0 | apply IsS51.set_1 | apply IsS51.set_2 | apply IsS51.set_3 | apply IsS51.set_4 | apply IsS51.set_5 | apply IsS51.set_6) | exact HI146.out)⟩, ⟨by repeat (first | (with_reducible first | exact HB.out | apply below_alloc | apply pw_below_drewN | apply below_drew1 | refine below_set ?_ (IsS51.ge HI146.out) | refine below_set ?_ (IsS51.ge HI155.out)) | exact HB.out)⟩⟩
    · rw [if_neg c6] at H
      have c6b0 : (t147 == 0) = false := beq_eq_false_iff_ne.mpr c6
      have c6b1 : (t147 != 0) = true := bne_iff_ne.mpr c6
      (first | rw [c6b0] | (simp only [i64_w, i32_w]; rw [c6b0]) | skip)
      have H' := Aside0.mk H
      clear H
      go_wp2
      go_meet
      case rel => exact ⟨_, (true), (t139), (t140), (t141), (t142), (t143), (t144), (t145), (by first | rfl | (simp; done) | (simp [*]; done)), H', ⟨by first | omega | exact Nat.le_refl _⟩, ⟨by repeat (first | (with_reducible first | exact HI146.out | apply IsS51.alloc | apply IsS51.drewN | apply IsS51.drew | apply IsS51.set_0 | apply IsS51.set_1 | apply IsS51.set_2 | apply IsS51.set_3 | apply IsS51.set_4 | apply IsS51.set_5 | apply IsS51.set_6) | exact HI146.out)⟩, ⟨by repeat (first | (with_reducible first | exact HB.out | apply below_alloc | apply pw_below_drewN | apply below_drew1 | refine below_set ?_ (IsS51.ge HI146.out) | refine below_set ?_ (IsS51.ge HI155.out)) | exact HB.out)⟩⟩
  case rest =>
    clear HC3
    try clear c1
    try clear p2
    try clear c6
    try clear c6b0
    try clear c6b1
    try clear c7
    try clear c7b0
    try clear c7b1
    try clear c9
    try clear c9b0
    try clear c12
    try clear c16
    obtain ⟨kq, x38_2, x147000_2, x147001_2, x147002_2, x147003_2, x147004_2, x147005_2, x147006_2, rfl, HA, HJ2, HI146, HB⟩ := hcut
    cases kq with
    | zero => exact absurd HA.out (by simp [scriptoriumlaw06_awake_in.j0])
    | succ kj2 =>
      have H := HA.out
      clear HA
      simp only [scriptoriumlaw06_awake_in.j0] at H
      by_cases c19 : x38_2 = true
      · subst c19
        have H1 : (some false) = some r := by rw [if_pos rfl] at H; exact H
        clear H
        have H := H1
        clear H1
        exact absurd (Option.some.inj (H.trans (congrArg some hrt))) (by decide)
      · replace c19 := Bool.eq_false_iff.mpr c19
        subst c19
        have H1 : ((clock_Clock_Raise.f x147000_2 x147001_2 x147002_2 x147003_2 x147004_2 x147005_2 x147006_2 50).bind fun bt182 => (if bt182.1 = 0 then ((clock_Clock_Set.f bt182.2.1 bt182.2.2.1 bt182.2.2.2.1 bt182.2.2.2.2.1 bt182.2.2.2.2.2.1 bt182.2.2.2.2.2.2.1 bt182.2.2.2.2.2.2.2 7).bind fun bt190 => (if bt190.1 = 0 then ((scriptoriumlaw06_tells.f bt190.2.1 bt190.2.2.1 bt190.2.2.2.1 bt190.2.2.2.2.1 bt190.2.2.2.2.2.1 bt190.2.2.2.2.2.2.1 bt190.2.2.2.2.2.2.2 7 0).bind fun bt198 => (if bt198.1 = true then ((scriptoriumlaw06_tells.f bt198.2.1 bt198.2.2.1 bt198.2.2.2.1 bt198.2.2.2.2.1 bt198.2.2.2.2.2.1 bt198.2.2.2.2.2.2.1 bt198.2.2.2.2.2.2.2 7 1).bind fun bt206 => (scriptoriumlaw06_awake_in.j1 kj2 bt206.1 bt206.2.1 bt206.2.2.1 bt206.2.2.2.1 bt206.2.2.2.2.1 bt206.2.2.2.2.2.1 bt206.2.2.2.2.2.2.1 bt206.2.2.2.2.2.2.2)) else (scriptoriumlaw06_awake_in.j1 kj2 false bt198.2.1 bt198.2.2.1 bt198.2.2.2.1 bt198.2.2.2.2.1 bt198.2.2.2.2.2.1 bt198.2.2.2.2.2.2.1 bt198.2.2.2.2.2.2.2))) else (scriptoriumlaw06_awake_in.j1 kj2 false bt190.2.1 bt190.2.2.1 bt190.2.2.2.1 bt190.2.2.2.2.1 bt190.2.2.2.2.2.1 bt190.2.2.2.2.2.2.1 bt190.2.2.2.2.2.2.2))) else (scriptoriumlaw06_awake_in.j1 kj2 false bt182.2.1 bt182.2.2.1 bt182.2.2.2.1 bt182.2.2.2.2.1 bt182.2.2.2.2.2.1 bt182.2.2.2.2.2.2.1 bt182.2.2.2.2.2.2.2))) = some r := by rw [if_neg (show ¬ (false = true) by decide)] at H; exact H
        clear H
        have H := H1
        clear H1
        have HC20 := Aside0.mk H
        clear H
        go_upto_region 5 with (fail)
        go_cut [5] (fun v5 wc => ∃ (kq : Nat) (x5_19 : Bool) (x147000_19 : Int) (x147001_19 : Int) (x147002_19 : Int) (x147003_19 : Int) (x147004_19 : Int) (x147005_19 : Int) (x147006_19 : Bool), v5 = .bool x5_19 ∧ Aside0 (scriptoriumlaw06_awake_in.j1 kq x5_19 x147000_19 x147001_19 x147002_19 x147003_19 x147004_19 x147005_19 x147006_19 = some r) ∧ Aside0 (kq ≤ kj2) ∧ Aside0 (IsS51 w wc g146 x147000_19 x147001_19 x147002_19 x147003_19 x147004_19 x147005_19 x147006_19) ∧ Aside0 (Below w.heap.size w wc))
        case first =>
          have H := HC20.out
          clear HC20
          replace H := Option.bind_eq_some_iff.mp H
          obtain ⟨⟨t182, t183, t184, t185, t186, t187, t188, t189⟩, A210, H⟩ := H
          replace H : (if t182 = 0 then ((clock_Clock_Set.f t183 t184 t185 t186 t187 t188 t189 7).bind fun bt190 => (if bt190.1 = 0 then ((scriptoriumlaw06_tells.f bt190.2.1 bt190.2.2.1 bt190.2.2.2.1 bt190.2.2.2.2.1 bt190.2.2.2.2.2.1 bt190.2.2.2.2.2.2.1 bt190.2.2.2.2.2.2.2 7 0).bind fun bt198 => (if bt198.1 = true then ((scriptoriumlaw06_tells.f bt198.2.1 bt198.2.2.1 bt198.2.2.2.1 bt198.2.2.2.2.1 bt198.2.2.2.2.2.1 bt198.2.2.2.2.2.2.1 bt198.2.2.2.2.2.2.2 7 1).bind fun bt206 => (scriptoriumlaw06_awake_in.j1 kj2 bt206.1 bt206.2.1 bt206.2.2.1 bt206.2.2.2.1 bt206.2.2.2.2.1 bt206.2.2.2.2.2.1 bt206.2.2.2.2.2.2.1 bt206.2.2.2.2.2.2.2)) else (scriptoriumlaw06_awake_in.j1 kj2 false bt198.2.1 bt198.2.2.1 bt198.2.2.2.1 bt198.2.2.2.2.1 bt198.2.2.2.2.2.1 bt198.2.2.2.2.2.2.1 bt198.2.2.2.2.2.2.2))) else (scriptoriumlaw06_awake_in.j1 kj2 false bt190.2.1 bt190.2.2.1 bt190.2.2.2.1 bt190.2.2.2.2.1 bt190.2.2.2.2.2.1 bt190.2.2.2.2.2.2.1 bt190.2.2.2.2.2.2.2))) else (scriptoriumlaw06_awake_in.j1 kj2 false t183 t184 t185 t186 t187 t188 t189)) = some r := H
          have A21 := Aside0.mk A210
          clear A210
          by_cases c22 : t182 = 0
          · rw [if_pos c22] at H
            have c22b0 : (t182 == 0) = true := beq_iff_eq.mpr c22
            have c22b1 : (t182 != 0) = false := bne_eq_false_iff_eq.mpr c22
            clear c22
            (first | rw [c22b0] | (simp only [i64_w, i32_w]; rw [c22b0]) | skip)
            replace H := Option.bind_eq_some_iff.mp H
            obtain ⟨⟨t190, t191, t192, t193, t194, t195, t196, t197⟩, A230, H⟩ := H
            replace H : (if t190 = 0 then ((scriptoriumlaw06_tells.f t191 t192 t193 t194 t195 t196 t197 7 0).bind fun bt198 => (if bt198.1 = true then ((scriptoriumlaw06_tells.f bt198.2.1 bt198.2.2.1 bt198.2.2.2.1 bt198.2.2.2.2.1 bt198.2.2.2.2.2.1 bt198.2.2.2.2.2.2.1 bt198.2.2.2.2.2.2.2 7 1).bind fun bt206 => (scriptoriumlaw06_awake_in.j1 kj2 bt206.1 bt206.2.1 bt206.2.2.1 bt206.2.2.2.1 bt206.2.2.2.2.1 bt206.2.2.2.2.2.1 bt206.2.2.2.2.2.2.1 bt206.2.2.2.2.2.2.2)) else (scriptoriumlaw06_awake_in.j1 kj2 false bt198.2.1 bt198.2.2.1 bt198.2.2.2.1 bt198.2.2.2.2.1 bt198.2.2.2.2.2.1 bt198.2.2.2.2.2.2.1 bt198.2.2.2.2.2.2.2))) else (scriptoriumlaw06_awake_in.j1 kj2 false t191 t192 t193 t194 t195 t196 t197)) = some r := H
            have A23 := Aside0.mk A230
            clear A230
            by_cases c24 : t190 = 0
            · rw [if_pos c24] at H
              have c24b0 : (t190 == 0) = true := beq_iff_eq.mpr c24
              have c24b1 : (t190 != 0) = false := bne_eq_false_iff_eq.mpr c24
              clear c24
              replace H := Option.bind_eq_some_iff.mp H
              obtain ⟨⟨t198, t199, t200, t201, t202, t203, t204, t205⟩, A250, H⟩ := H
              replace H : (if t198 = true then ((scriptoriumlaw06_tells.f t199 t200 t201 t202 t203 t204 t205 7 1).bind fun bt206 => (scriptoriumlaw06_awake_in.j1 kj2 bt206.1 bt206.2.1 bt206.2.2.1 bt206.2.2.2.1 bt206.2.2.2.2.1 bt206.2.2.2.2.2.1 bt206.2.2.2.2.2.2.1 bt206.2.2.2.2.2.2.2)) else (scriptoriumlaw06_awake_in.j1 kj2 false t199 t200 t201 t202 t203 t204 t205)) = some r := H
              have A25 := Aside0.mk A250
              clear A250
              by_cases c26 : t198 = true
              · subst c26
                have H1 : ((scriptoriumlaw06_tells.f t199 t200 t201 t202 t203 t204 t205 7 1).bind fun bt206 => (scriptoriumlaw06_awake_in.j1 kj2 bt206.1 bt206.2.1 bt206.2.2.1 bt206.2.2.2.1 bt206.2.2.2.2.1 bt206.2.2.2.2.2.1 bt206.2.2.2.2.2.2.1 bt206.2.2.2.2.2.2.2)) = some r := by rw [if_pos rfl] at H; exact H
                clear H
                have H := H1
                clear H1
                replace H := Option.bind_eq_some_iff.mp H
                obtain ⟨⟨t206, t207, t208, t209, t210, t211, t212, t213⟩, A270, H⟩ := H
                replace H : (scriptoriumlaw06_awake_in.j1 kj2 t206 t207 t208 t209 t210 t211 t212 t213) = some r := H
                have A27 := Aside0.mk A270
                clear A270
                have H' := Aside0.mk H
                clear H
                go_wp2_with (first | ((with_reducible refine gate_callee (f := 10) rfl ?_); refine goesL_ (some 40) rfl rfl Try.func10 (by kernel_rfl) rfl #[.pointer (some ⟨g146, 0, none⟩), .int .i64 50] rfl (by (try simp only [List.map_toArray, List.map_cons, List.map_nil]); first | done | rfl | (simp only [List.length_drop, List.length_take]; rfl)) ?_; (with_reducible refine (clock_Clock_Raise.calls g146 x147000_2 x147001_2 x147002_2 x147003_2 x147004_2 x147005_2 x147006_2 50 t182 t183 t184 t185 t186 t187 t188 t189 w _ ?side1 ?side2 A21.out).mono ?_); (case side1 => repeat (first | (with_reducible first | exact HI146.out | apply IsS51.alloc | apply IsS51.drewN | apply IsS51.drew | apply IsS51.set_0 | apply IsS51.set_1 | apply IsS51.set_2 | apply IsS51.set_3 | apply IsS51.set_4 | apply IsS51.set_5 | apply IsS51.set_6) | exact HI146.out)); (case side2 => repeat (first | (with_reducible first | exact HB.out | apply below_alloc | apply pw_below_drewN | apply below_drew1 | refine below_set ?_ (IsS51.ge HI146.out)) | exact HB.out)); rintro e w28 ⟨rfl, hi, hb, hk⟩; refine ⟨_, rfl, ?_⟩; have n0_ := Aside0.mk (hb); have n1_ := Aside0.mk (hi); clear HB; clear HI146; have HB := n0_; have HI146 := n1_; clear n0_ n1_; (try clear hb); (try clear hb2); (try clear hk); (try clear hi); (try clear hgn)) | (go_at_call 11; (with_reducible refine (clock_Clock_Set.calls g146 t183 t184 t185 t186 t187 t188 t189 7 t190 t191 t192 t193 t194 t195 t196 t197 w _ ?side1 ?side2 A23.out).mono ?_); (case side1 => repeat (first | (with_reducible first | exact HI146.out | apply IsS51.alloc | apply IsS51.drewN | apply IsS51.drew | apply IsS51.set_0 | apply IsS51.set_1 | apply IsS51.set_2 | apply IsS51.set_3 | apply IsS51.set_4 | apply IsS51.set_5 | apply IsS51.set_6) | exact HI146.out)); (case side2 => repeat (first | (with_reducible first | exact HB.out | apply below_alloc | apply pw_below_drewN | apply below_drew1 | refine below_set ?_ (IsS51.ge HI146.out)) | exact HB.out)); rintro e w29 ⟨rfl, hi, hb, hk⟩; have n0_ := Aside0.mk (hb); have n1_ := Aside0.mk (hi); clear HB; clear HI146; have HB := n0_; have HI146 := n1_; clear n0_ n1_; (try clear hb); (try clear hb2); (try clear hk); (try clear hi); (try clear hgn)) | (go_at_call 33; (with_reducible refine (scriptoriumlaw06_tells.calls g146 t191 t192 t193 t194 t195 t196 t197 7 0 true t199 t200 t201 t202 t203 t204 t205 w _ ?side1 ?side2 A25.out).mono ?_); (case side1 => repeat (first | (with_reducible first | exact HI146.out | apply IsS51.alloc | apply IsS51.drewN | apply IsS51.drew | apply IsS51.set_0 | apply IsS51.set_1 | apply IsS51.set_2 | apply IsS51.set_3 | apply IsS51.set_4 | apply IsS51.set_5 | apply IsS51.set_6) | exact HI146.out)); (case side2 => repeat (first | (with_reducible first | exact HB.out | apply below_alloc | apply pw_below_drewN | apply below_drew1 | refine below_set ?_ (IsS51.ge HI146.out)) | exact HB.out)); rintro e w30 ⟨rfl, hi, hb, hk⟩; have n0_ := Aside0.mk (hb); have n1_ := Aside0.mk (hi); clear HB; clear HI146; have HB := n0_; have HI146 := n1_; clear n0_ n1_; (try clear hb); (try clear hb2); (try clear hk); (try clear hi); (try clear hgn)) | (go_at_call 33; (with_reducible refine (scriptoriumlaw06_tells.calls g146 t199 t200 t201 t202 t203 t204 t205 7 1 t206 t207 t208 t209 t210 t211 t212 t213 w _ ?side1 ?side2 A27.out).mono ?_); (case side1 => repeat (first | (with_reducible first | exact HI146.out | apply IsS51.alloc | apply IsS51.drewN | apply IsS51.drew | apply IsS51.set_0 | apply IsS51.set_1 | apply IsS51.set_2 | apply IsS51.set_3 | apply IsS51.set_4 | apply IsS51.set_5 | apply IsS51.set_6) | exact HI146.out)); (case side2 => repeat (first | (with_reducible first | exact HB.out | apply below_alloc | apply pw_below_drewN | apply below_drew1 | refine below_set ?_ (IsS51.ge HI146.out)) | exact HB.out)); rintro e w31 ⟨rfl, hi, hb, hk⟩; have n0_ := Aside0.mk (hb); have n1_ := Aside0.mk (hi); clear HB; clear HI146; have HB := n0_; have HI146 := n1_; clear n0_ n1_; (try clear hb); (try clear hb2); (try clear hk); (try clear hi); (try clear hgn)))
                go_meet
                case rel => exact ⟨_, (t206), (t207), (t208), (t209), (t210), (t211), (t212), (t213), (by first | rfl | (simp; done) | (simp [*]; done)), H', ⟨by have := HJ2.out; first | omega | exact Nat.le_refl _⟩, ⟨by repeat (first | (with_reducible first | exact HI146.out | apply IsS51.alloc | apply IsS51.drewN | apply IsS51.drew | apply IsS51.set_0 | apply IsS51.set_1 | apply IsS51.set_2 | apply IsS51.set_3 | apply IsS51.set_4 | apply IsS51.set_5 | apply IsS51.set_6) | exact HI146.out)⟩, ⟨by repeat (first | (with_reducible first | exact HB.out | apply below_alloc | apply pw_below_drewN | apply below_drew1 | refine below_set ?_ (IsS51.ge HI146.out)) | exact HB.out)⟩⟩
              · replace c26 := Bool.eq_false_iff.mpr c26
                subst c26
                have H1 : (scriptoriumlaw06_awake_in.j1 kj2 false t199 t200 t201 t202 t203 t204 t205) = some r := by rw [if_neg (show ¬ (false = true) by decide)] at H; exact H
                clear H
                have H := H1
                clear H1
                have H' := Aside0.mk H
                clear H
                go_wp2_with (first | ((with_reducible refine gate_callee (f := 10) rfl ?_); refine goesL_ (some 40) rfl rfl Try.func10 (by kernel_rfl) rfl #[.pointer (some ⟨g146, 0, none⟩), .int .i64 50] rfl (by (try simp only [List.map_toArray, List.map_cons, List.map_nil]); first | done | rfl | (simp only [List.length_drop, List.length_take]; rfl)) ?_; (with_reducible refine (clock_Clock_Raise.calls g146 x147000_2 x147001_2 x147002_2 x147003_2 x147004_2 x147005_2 x147006_2 50 t182 t183 t184 t185 t186 t187 t188 t189 w _ ?side1 ?side2 A21.out).mono ?_); (case side1 => repeat (first | (with_reducible first | exact HI146.out | apply IsS51.alloc | apply IsS51.drewN | apply IsS51.drew | apply IsS51.set_0 | apply IsS51.set_1 | apply IsS51.set_2 | apply IsS51.set_3 | apply IsS51.set_4 | apply IsS51.set_5 | apply IsS51.set_6) | exact HI146.out)); (case side2 => repeat (first | (with_reducible first | exact HB.out | apply below_alloc | apply pw_below_drewN | apply below_drew1 | refine below_set ?_ (IsS51.ge HI146.out)) | exact HB.out)); rintro e w32 ⟨rfl, hi, hb, hk⟩; refine ⟨_, rfl, ?_⟩; have n0_ := Aside0.mk (hb); have n1_ := Aside0.mk (hi); clear HB; clear HI146; have HB := n0_; have HI146 := n1_; clear n0_ n1_; (try clear hb); (try clear hb2); (try clear hk); (try clear hi); (try clear hgn)) | (go_at_call 11; (with_reducible refine (clock_Clock_Set.calls g146 t183 t184 t185 t186 t187 t188 t189 7 t190 t191 t192 t193 t194 t195 t196 t197 w _ ?side1 ?side2 A23.out).mono ?_); (case side1 => repeat (first | (with_reducible first | exact HI146.out | apply IsS51.alloc | apply IsS51.drewN | apply IsS51.drew | apply IsS51.set_0 | apply IsS51.set_1 | apply IsS51.set_2 | apply IsS51.set_3 | apply IsS51.set_4 | apply IsS51.set_5 | apply IsS51.set_6) | exact HI146.out)); (case side2 => repeat (first | (with_reducible first | exact HB.out | apply below_alloc | apply pw_below_drewN | apply below_drew1 | refine below_set ?_ (IsS51.ge HI146.out)) | exact HB.out)); rintro e w33 ⟨rfl, hi, hb, hk⟩; have n0_ := Aside0.mk (hb); have n1_ := Aside0.mk (hi); clear HB; clear HI146; have HB := n0_; have HI146 := n1_; clear n0_ n1_; (try clear hb); (try clear hb2); (try clear hk); (try clear hi); (try clear hgn)) | (go_at_call 33; (with_reducible refine (scriptoriumlaw06_tells.calls g146 t191 t192 t193 t194 t195 t196 t197 7 0 false t199 t200 t201 t202 t203 t204 t205 w _ ?side1 ?side2 A25.out).mono ?_); (case side1 => repeat (first | (with_reducible first | exact HI146.out | apply IsS51.alloc | apply IsS51.drewN | apply IsS51.drew | apply IsS51.set_0 | apply IsS51.set_1 | apply IsS51.set_2 | apply IsS51.set_3 | apply IsS51.set_4 | apply IsS51.set_5 | apply IsS51.set_6) | exact HI146.out)); (case side2 => repeat (first | (with_reducible first | exact HB.out | apply below_alloc | apply pw_below_drewN | apply below_drew1 | refine below_set ?_ (IsS51.ge HI146.out)) | exact HB.out)); rintro e w34 ⟨rfl, hi, hb, hk⟩; have n0_ := Aside0.mk (hb); have n1_ := Aside0.mk (hi); clear HB; clear HI146; have HB := n0_; have HI146 := n1_; clear n0_ n1_; (try clear hb); (try clear hb2); (try clear hk); (try clear hi); (try clear hgn)))
                go_meet
                case rel => exact ⟨_, (false), (t199), (t200), (t201), (t202), (t203), (t204), (t205), (by first | rfl | (simp; done) | (simp [*]; done)), H', ⟨by have := HJ2.out; first | omega | exact Nat.le_refl _⟩, ⟨by repeat (first | (with_reducible first | exact HI146.out | apply IsS51.alloc | apply IsS51.drewN | apply IsS51.drew | apply IsS51.set_0 | apply IsS51.set_1 | apply IsS51.set_2 | apply IsS51.set_3 | apply IsS51.set_4 | apply IsS51.set_5 | apply IsS51.set_6) | exact HI146.out)⟩, ⟨by repeat (first | (with_reducible first | exact HB.out | apply below_alloc | apply pw_below_drewN | apply below_drew1 | refine below_set ?_ (IsS51.ge HI146.out)) | exact HB.out)⟩⟩
            · rw [if_neg c24] at H
              have c24b0 : (t190 == 0) = false := beq_eq_false_iff_ne.mpr c24
              have c24b1 : (t190 != 0) = true := bne_iff_ne.mpr c24
              have H' := Aside0.mk H
              clear H
              go_wp2_with (first | ((with_reducible refine gate_callee (f := 10) rfl ?_); refine goesL_ (some 40) rfl rfl Try.func10 (by kernel_rfl) rfl #[.pointer (some ⟨g146, 0, none⟩), .int .i64 50] rfl (by (try simp only [List.map_toArray, List.map_cons, List.map_nil]); first | done | rfl | (simp only [List.length_drop, List.length_take]; rfl)) ?_; (with_reducible refine (clock_Clock_Raise.calls g146 x147000_2 x147001_2 x147002_2 x147003_2 x147004_2 x147005_2 x147006_2 50 t182 t183 t184 t185 t186 t187 t188 t189 w _ ?side1 ?side2 A21.out).mono ?_); (case side1 => repeat (first | (with_reducible first | exact HI146.out | apply IsS51.alloc | apply IsS51.drewN | apply IsS51.drew | apply IsS51.set_0 | apply IsS51.set_1 | apply IsS51.set_2 | apply IsS51.set_3 | apply IsS51.set_4 | apply IsS51.set_5 | apply IsS51.set_6) | exact HI146.out)); (case side2 => repeat (first | (with_reducible first | exact HB.out | apply below_alloc | apply pw_below_drewN | apply below_drew1 | refine below_set ?_ (IsS51.ge HI146.out)) | exact HB.out)); rintro e w35 ⟨rfl, hi, hb, hk⟩; refine ⟨_, rfl, ?_⟩; have n0_ := Aside0.mk (hb); have n1_ := Aside0.mk (hi); clear HB; clear HI146; have HB := n0_; have HI146 := n1_; clear n0_ n1_; (try clear hb); (try clear hb2); (try clear hk); (try clear hi); (try clear hgn)) | (go_at_call 11; (with_reducible refine (clock_Clock_Set.calls g146 t183 t184 t185 t186 t187 t188 t189 7 t190 t191 t192 t193 t194 t195 t196 t197 w _ ?side1 ?side2 A23.out).mono ?_); (case side1 => repeat (first | (with_reducible first | exact HI146.out | apply IsS51.alloc | apply IsS51.drewN | apply IsS51.drew | apply IsS51.set_0 | apply IsS51.set_1 | apply IsS51.set_2 | apply IsS51.set_3 | apply IsS51.set_4 | apply IsS51.set_5 | apply IsS51.set_6) | exact HI146.out)); (case side2 => repeat (first | (with_reducible first | exact HB.out | apply below_alloc | apply pw_below_drewN | apply below_drew1 | refine below_set ?_ (IsS51.ge HI146.out)) | exact HB.out)); rintro e w36 ⟨rfl, hi, hb, hk⟩; have n0_ := Aside0.mk (hb); have n1_ := Aside0.mk (hi); clear HB; clear HI146; have HB := n0_; have HI146 := n1_; clear n0_ n1_; (try clear hb); (try clear hb2); (try clear hk); (try clear hi); (try clear hgn)))
              go_meet
              case rel => exact ⟨_, (false), (t191), (t192), (t193), (t194), (t195), (t196), (t197), (by first | rfl | (simp; done) | (simp [*]; done)), H', ⟨by have := HJ2.out; first | omega | exact Nat.le_refl _⟩, ⟨by repeat (first | (with_reducible first | exact HI146.out | apply IsS51.alloc | apply IsS51.drewN | apply IsS51.drew | apply IsS51.set_0 | apply IsS51.set_1 | apply IsS51.set_2 | apply IsS51.set_3 | apply IsS51.set_4 | apply IsS51.set_5 | apply IsS51.set_6) | exact HI146.out)⟩, ⟨by repeat (first | (with_reducible first | exact HB.out | apply below_alloc | apply pw_below_drewN | apply below_drew1 | refine below_set ?_ (IsS51.ge HI146.out)) | exact HB.out)⟩⟩
          · rw [if_neg c22] at H
            have c22b0 : (t182 == 0) = false := beq_eq_false_iff_ne.mpr c22
            have c22b1 : (t182 != 0) = true := bne_iff_ne.mpr c22
            (first | rw [c22b0] | (simp only [i64_w, i32_w]; rw [c22b0]) | skip)
            have H' := Aside0.mk H
            clear H
            go_wp2_with (first | ((with_reducible refine gate_callee (f := 10) rfl ?_); refine goesL_ (some 40) rfl rfl Try.func10 (by kernel_rfl) rfl #[.pointer (some ⟨g146, 0, none⟩), .int .i64 50] rfl (by (try simp only [List.map_toArray, List.map_cons, List.map_nil]); first | done | rfl | (simp only [List.length_drop, List.length_take]; rfl)) ?_; (with_reducible refine (clock_Clock_Raise.calls g146 x147000_2 x147001_2 x147002_2 x147003_2 x147004_2 x147005_2 x147006_2 50 t182 t183 t184 t185 t186 t187 t188 t189 w _ ?side1 ?side2 A21.out).mono ?_); (case side1 => repeat (first | (with_reducible first | exact HI146.out | apply IsS51.alloc | apply IsS51.drewN | apply IsS51.drew | apply IsS51.set_0 | apply IsS51.set_1 | apply IsS51.set_2 | apply IsS51.set_3 | apply IsS51.set_4 | apply IsS51.set_5 | apply IsS51.set_6) | exact HI146.out)); (case side2 => repeat (first | (with_reducible first | exact HB.out | apply below_alloc | apply pw_below_drewN | apply below_drew1 | refine below_set ?_ (IsS51.ge HI146.out)) | exact HB.out)); rintro e w37 ⟨rfl, hi, hb, hk⟩; refine ⟨_, rfl, ?_⟩; have n0_ := Aside0.mk (hb); have n1_ := Aside0.mk (hi); clear HB; clear HI146; have HB := n0_; have HI146 := n1_; clear n0_ n1_; (try clear hb); (try clear hb2); (try clear hk); (try clear hi); (try clear hgn)))
            go_meet
            case rel => exact ⟨_, (false), (t183), (t184), (t185), (t186), (t187), (t188), (t189), (by first | rfl | (simp; done) | (simp [*]; done)), H', ⟨by have := HJ2.out; first | omega | exact Nat.le_refl _⟩, ⟨by repeat (first | (with_reducible first | exact HI146.out | apply IsS51.alloc | apply IsS51.drewN | apply IsS51.drew | apply IsS51.set_0 | apply IsS51.set_1 | apply IsS51.set_2 | apply IsS51.set_3 | apply IsS51.set_4 | apply IsS51.set_5 | apply IsS51.set_6) | exact HI146.out)⟩, ⟨by repeat (first | (with_reducible first | exact HB.out | apply below_alloc | apply pw_below_drewN | apply below_drew1 | refine below_set ?_ (IsS51.ge HI146.out)) | exact HB.out)⟩⟩
        case rest =>
          clear HC20
          try clear c1
          try clear c2
          try clear p2
          try clear c6
          try clear c6b0
          try clear c6b1
          try clear c7
          try clear c7b0
          try clear c7b1
          try clear c9
          try clear c9b0
          try clear c10
          try clear c12
          try clear c16
          try clear c19
          try clear c22
          try clear c22b0
          try clear c22b1
          try clear c24
          try clear c24b0
          try clear c24b1
          try clear c26
          try clear p2
          obtain ⟨kq, x5_19, x147000_19, x147001_19, x147002_19, x147003_19, x147004_19, x147005_19, x147006_19, rfl, HA, HJ19, HI146, HB⟩ := hcut
          cases kq with
          | zero => exact absurd HA.out (by simp [scriptoriumlaw06_awake_in.j1])
          | succ kj19 =>
            have H := HA.out
            clear HA
            simp only [scriptoriumlaw06_awake_in.j1] at H
            have HC38 := Aside0.mk H
            clear H
            go_upto_region 6 with (fail)
            go_cut [6] (fun v6 wc => ∃ (kq : Nat) (x6_37 : Bool) (x147000_37 : Int) (x147001_37 : Int) (x147002_37 : Int) (x147003_37 : Int) (x147004_37 : Int) (x147005_37 : Int) (x147006_37 : Bool), v6 = .bool x6_37 ∧ Aside0 (scriptoriumlaw06_awake_in.j2 kq x5_19 x6_37 x147000_37 x147001_37 x147002_37 x147003_37 x147004_37 x147005_37 x147006_37 = some r) ∧ Aside0 (kq ≤ kj19) ∧ Aside0 (IsS51 w wc g146 x147000_37 x147001_37 x147002_37 x147003_37 x147004_37 x147005_37 x147006_37) ∧ Aside0 (Below w.heap.size w wc))
            case first =>
              have H := HC38.out
              clear HC38
              replace H := Option.bind_eq_some_iff.mp H
              obtain ⟨⟨t214, t215, t216, t217, t218, t219, t220, t221⟩, A390, H⟩ := H
              replace H : (if t214 = 0 then ((scriptoriumlaw06_tells.f t215 t216 t217 t218 t219 t220 t221 17 4).bind fun bt222 => (if bt222.1 = true then ((clock_Clock_See.f bt222.2.1 bt222.2.2.1 bt222.2.2.2.1 bt222.2.2.2.2.1 bt222.2.2.2.2.2.1 bt222.2.2.2.2.2.2.1 bt222.2.2.2.2.2.2.2 18 0).bind fun bt230 => (scriptoriumlaw06_awake_in.j2 kj19 x5_19 (bt230.1 == 60) bt230.2.1 bt230.2.2.1 bt230.2.2.2.1 bt230.2.2.2.2.1 bt230.2.2.2.2.2.1 bt230.2.2.2.2.2.2.1 bt230.2.2.2.2.2.2.2)) else (scriptoriumlaw06_awake_in.j2 kj19 x5_19 false bt222.2.1 bt222.2.2.1 bt222.2.2.2.1 bt222.2.2.2.2.1 bt222.2.2.2.2.2.1 bt222.2.2.2.2.2.2.1 bt222.2.2.2.2.2.2.2))) else (scriptoriumlaw06_awake_in.j2 kj19 x5_19 false t215 t216 t217 t218 t219 t220 t221)) = some r := H
              have A39 := Aside0.mk A390
              clear A390
              by_cases c40 : t214 = 0
              · rw [if_pos c40] at H
                have c40b0 : (t214 == 0) = true := beq_iff_eq.mpr c40
                have c40b1 : (t214 != 0) = false := bne_eq_false_iff_eq.mpr c40
                clear c40
                (first | rw [c40b0] | (simp only [i64_w, i32_w]; rw [c40b0]) | skip)
                replace H := Option.bind_eq_some_iff.mp H
                obtain ⟨⟨t222, t223, t224, t225, t226, t227, t228, t229⟩, A410, H⟩ := H
                replace H : (if t222 = true then ((clock_Clock_See.f t223 t224 t225 t226 t227 t228 t229 18 0).bind fun bt230 => (scriptoriumlaw06_awake_in.j2 kj19 x5_19 (bt230.1 == 60) bt230.2.1 bt230.2.2.1 bt230.2.2.2.1 bt230.2.2.2.2.1 bt230.2.2.2.2.2.1 bt230.2.2.2.2.2.2.1 bt230.2.2.2.2.2.2.2)) else (scriptoriumlaw06_awake_in.j2 kj19 x5_19 false t223 t224 t225 t226 t227 t228 t229)) = some r := H
                have A41 := Aside0.mk A410
                clear A410
                by_cases c42 : t222 = true
                · subst c42
                  have H1 : ((clock_Clock_See.f t223 t224 t225 t226 t227 t228 t229 18 0).bind fun bt230 => (scriptoriumlaw06_awake_in.j2 kj19 x5_19 (bt230.1 == 60) bt230.2.1 bt230.2.2.1 bt230.2.2.2.1 bt230.2.2.2.2.1 bt230.2.2.2.2.2.1 bt230.2.2.2.2.2.2.1 bt230.2.2.2.2.2.2.2)) = some r := by rw [if_pos rfl] at H; exact H
                  clear H
                  have H := H1
                  clear H1
                  replace H := Option.bind_eq_some_iff.mp H
                  obtain ⟨⟨t230, t231, t232, t233, t234, t235, t236, t237⟩, A430, H⟩ := H
                  replace H : (scriptoriumlaw06_awake_in.j2 kj19 x5_19 (t230 == 60) t231 t232 t233 t234 t235 t236 t237) = some r := H
                  have A43 := Aside0.mk A430
                  clear A430
                  have H' := Aside0.mk H
                  clear H
                  go_wp2_with (first | ((with_reducible refine gate_callee (f := 15) rfl ?_); refine goesL_ (some 57) rfl rfl Try.func15 (by kernel_rfl) rfl #[.pointer (some ⟨g146, 0, none⟩), .agg #[.int .i64 17, .int .i64 3]] rfl (by (try simp only [List.map_toArray, List.map_cons, List.map_nil]); first | done | rfl | (simp only [List.length_drop, List.length_take]; rfl)) ?_; (with_reducible refine (clock_Clock_See.calls g146 x147000_19 x147001_19 x147002_19 x147003_19 x147004_19 x147005_19 x147006_19 17 3 t214 t215 t216 t217 t218 t219 t220 t221 w _ ?side1 ?side2 A39.out).mono ?_); (case side1 => repeat (first | (with_reducible first | exact HI146.out | apply IsS51.alloc | apply IsS51.drewN | apply IsS51.drew | apply IsS51.set_0 | apply IsS51.set_1 | apply IsS51.set_2 | apply IsS51.set_3 | apply IsS51.set_4 | apply IsS51.set_5 | apply IsS51.set_6) | exact HI146.out)); (case side2 => repeat (first | (with_reducible first | exact HB.out | apply below_alloc | apply pw_below_drewN | apply below_drew1 | refine below_set ?_ (IsS51.ge HI146.out)) | exact HB.out)); rintro e w44 ⟨rfl, hi, hb, hk⟩; refine ⟨_, rfl, ?_⟩; have n0_ := Aside0.mk (hb); have n1_ := Aside0.mk (hi); clear HB; clear HI146; have HB := n0_; have HI146 := n1_; clear n0_ n1_; (try clear hb); (try clear hb2); (try clear hk); (try clear hi); (try clear hgn)) | (go_at_call 33; (with_reducible refine (scriptoriumlaw06_tells.calls g146 t215 t216 t217 t218 t219 t220 t221 17 4 true t223 t224 t225 t226 t227 t228 t229 w _ ?side1 ?side2 A41.out).mono ?_); (case side1 => repeat (first | (with_reducible first | exact HI146.out | apply IsS51.alloc | apply IsS51.drewN | apply IsS51.drew | apply IsS51.set_0 | apply IsS51.set_1 | apply IsS51.set_2 | apply IsS51.set_3 | apply IsS51.set_4 | apply IsS51.set_5 | apply IsS51.set_6) | exact HI146.out)); (case side2 => repeat (first | (with_reducible first | exact HB.out | apply below_alloc | apply pw_below_drewN | apply below_drew1 | refine below_set ?_ (IsS51.ge HI146.out)) | exact HB.out)); rintro e w45 ⟨rfl, hi, hb, hk⟩; have n0_ := Aside0.mk (hb); have n1_ := Aside0.mk (hi); clear HB; clear HI146; have HB := n0_; have HI146 := n1_; clear n0_ n1_; (try clear hb); (try clear hb2); (try clear hk); (try clear hi); (try clear hgn)) | (go_at_call 15; (with_reducible refine (clock_Clock_See.calls g146 t223 t224 t225 t226 t227 t228 t229 18 0 t230 t231 t232 t233 t234 t235 t236 t237 w _ ?side1 ?side2 A43.out).mono ?_); (case side1 => repeat (first | (with_reducible first | exact HI146.out | apply IsS51.alloc | apply IsS51.drewN | apply IsS51.drew | apply IsS51.set_0 | apply IsS51.set_1 | apply IsS51.set_2 | apply IsS51.set_3 | apply IsS51.set_4 | apply IsS51.set_5 | apply IsS51.set_6) | exact HI146.out)); (case side2 => repeat (first | (with_reducible first | exact HB.out | apply below_alloc | apply pw_below_drewN | apply below_drew1 | refine below_set ?_ (IsS51.ge HI146.out)) | exact HB.out)); rintro e w46 ⟨rfl, hi, hb, hk⟩; have n0_ := Aside0.mk (hb); have n1_ := Aside0.mk (hi); clear HB; clear HI146; have HB := n0_; have HI146 := n1_; clear n0_ n1_; (try clear hb); (try clear hb2); (try clear hk); (try clear hi); (try clear hgn)))
                  go_meet
                  case rel => exact ⟨_, ((t230 == 60)), (t231), (t232), (t233), (t234), (t235), (t236), (t237), (by first | rfl | (simp; done) | (simp [*]; done)), H', ⟨by have := HJ2.out; have := HJ19.out; first | omega | exact Nat.le_refl _⟩, ⟨by repeat (first | (with_reducible first | exact HI146.out | apply IsS51.alloc | apply IsS51.drewN | apply IsS51.drew | apply IsS51.set_0 | apply IsS51.set_1 | apply IsS51.set_2 | apply IsS51.set_3 | apply IsS51.set_4 | apply IsS51.set_5 | apply IsS51.set_6) | exact HI146.out)⟩, ⟨by repeat (first | (with_reducible first | exact HB.out | apply below_alloc | apply pw_below_drewN | apply below_drew1 | refine below_set ?_ (IsS51.ge HI146.out)) | exact HB.out)⟩⟩
                · replace c42 := Bool.eq_false_iff.mpr c42
                  subst c42
                  have H1 : (scriptoriumlaw06_awake_in.j2 kj19 x5_19 false t223 t224 t225 t226 t227 t228 t229) = some r := by rw [if_neg (show ¬ (false = true) by decide)] at H; exact H
                  clear H
                  have H := H1
                  clear H1
                  have H' := Aside0.mk H
                  clear H
                  go_wp2_with (first | ((with_reducible refine gate_callee (f := 15) rfl ?_); refine goesL_ (some 57) rfl rfl Try.func15 (by kernel_rfl) rfl #[.pointer (some ⟨g146, 0, none⟩), .agg #[.int .i64 17, .int .i64 3]] rfl (by (try simp only [List.map_toArray, List.map_cons, List.map_nil]); first | done | rfl | (simp only [List.length_drop, List.length_take]; rfl)) ?_; (with_reducible refine (clock_Clock_See.calls g146 x147000_19 x147001_19 x147002_19 x147003_19 x147004_19 x147005_19 x147006_19 17 3 t214 t215 t216 t217 t218 t219 t220 t221 w _ ?side1 ?side2 A39.out).mono ?_); (case side1 => repeat (first | (with_reducible first | exact HI146.out | apply IsS51.alloc | apply IsS51.drewN | apply IsS51.drew | apply IsS51.set_0 | apply IsS51.set_1 | apply IsS51.set_2 | apply IsS51.set_3 | apply IsS51.set_4 | apply IsS51.set_5 | apply IsS51.set_6) | exact HI146.out)); (case side2 => repeat (first | (with_reducible first | exact HB.out | apply below_alloc | apply pw_below_drewN | apply below_drew1 | refine below_set ?_ (IsS51.ge HI146.out)) | exact HB.out)); rintro e w47 ⟨rfl, hi, hb, hk⟩; refine ⟨_, rfl, ?_⟩; have n0_ := Aside0.mk (hb); have n1_ := Aside0.mk (hi); clear HB; clear HI146; have HB := n0_; have HI146 := n1_; clear n0_ n1_; (try clear hb); (try clear hb2); (try clear hk); (try clear hi); (try clear hgn)) | (go_at_call 33; (with_reducible refine (scriptoriumlaw06_tells.calls g146 t215 t216 t217 t218 t219 t220 t221 17 4 false t223 t224 t225 t226 t227 t228 t229 w _ ?side1 ?side2 A41.out).mono ?_); (case side1 => repeat (first | (with_reducible first | exact HI146.out | apply IsS51.alloc | apply IsS51.drewN | apply IsS51.drew | apply IsS51.set_0 | apply IsS51.set_1 | apply IsS51.set_2 | apply IsS51.set_3 | apply IsS51.set_4 | apply IsS51.set_5 | apply IsS51.set_6) | exact HI146.out)); (case side2 => repeat (first | (with_reducible first | exact HB.out | apply below_alloc | apply pw_below_drewN | apply below_drew1 | refine below_set ?_ (IsS51.ge HI146.out)) | exact HB.out)); rintro e w48 ⟨rfl, hi, hb, hk⟩; have n0_ := Aside0.mk (hb); have n1_ := Aside0.mk (hi); clear HB; clear HI146; have HB := n0_; have HI146 := n1_; clear n0_ n1_; (try clear hb); (try clear hb2); (try clear hk); (try clear hi); (try clear hgn)))
                  go_meet
                  case rel => exact ⟨_, (false), (t223), (t224), (t225), (t226), (t227), (t228), (t229), (by first | rfl | (simp; done) | (simp [*]; done)), H', ⟨by have := HJ2.out; have := HJ19.out; first | omega | exact Nat.le_refl _⟩, ⟨by repeat (first | (with_reducible first | exact HI146.out | apply IsS51.alloc | apply IsS51.drewN | apply IsS51.drew | apply IsS51.set_0 | apply IsS51.set_1 | apply IsS51.set_2 | apply IsS51.set_3 | apply IsS51.set_4 | apply IsS51.set_5 | apply IsS51.set_6) | exact HI146.out)⟩, ⟨by repeat (first | (with_reducible first | exact HB.out | apply below_alloc | apply pw_below_drewN | apply below_drew1 | refine below_set ?_ (IsS51.ge HI146.out)) | exact HB.out)⟩⟩
              · rw [if_neg c40] at H
                have c40b0 : (t214 == 0) = false := beq_eq_false_iff_ne.mpr c40
                have c40b1 : (t214 != 0) = true := bne_iff_ne.mpr c40
                (first | rw [c40b0] | (simp only [i64_w, i32_w]; rw [c40b0]) | skip)
                have H' := Aside0.mk H
                clear H
                go_wp2_with (first | ((with_reducible refine gate_callee (f := 15) rfl ?_); refine goesL_ (some 57) rfl rfl Try.func15 (by kernel_rfl) rfl #[.pointer (some ⟨g146, 0, none⟩), .agg #[.int .i64 17, .int .i64 3]] rfl (by (try simp only [List.map_toArray, List.map_cons, List.map_nil]); first | done | rfl | (simp only [List.length_drop, List.length_take]; rfl)) ?_; (with_reducible refine (clock_Clock_See.calls g146 x147000_19 x147001_19 x147002_19 x147003_19 x147004_19 x147005_19 x147006_19 17 3 t214 t215 t216 t217 t218 t219 t220 t221 w _ ?side1 ?side2 A39.out).mono ?_); (case side1 => repeat (first | (with_reducible first | exact HI146.out | apply IsS51.alloc | apply IsS51.drewN | apply IsS51.drew | apply IsS51.set_0 | apply IsS51.set_1 | apply IsS51.set_2 | apply IsS51.set_3 | apply IsS51.set_4 | apply IsS51.set_5 | apply IsS51.set_6) | exact HI146.out)); (case side2 => repeat (first | (with_reducible first | exact HB.out | apply below_alloc | apply pw_below_drewN | apply below_drew1 | refine below_set ?_ (IsS51.ge HI146.out)) | exact HB.out)); rintro e w49 ⟨rfl, hi, hb, hk⟩; refine ⟨_, rfl, ?_⟩; have n0_ := Aside0.mk (hb); have n1_ := Aside0.mk (hi); clear HB; clear HI146; have HB := n0_; have HI146 := n1_; clear n0_ n1_; (try clear hb); (try clear hb2); (try clear hk); (try clear hi); (try clear hgn)))
                go_meet
                case rel => exact ⟨_, (false), (t215), (t216), (t217), (t218), (t219), (t220), (t221), (by first | rfl | (simp; done) | (simp [*]; done)), H', ⟨by have := HJ2.out; have := HJ19.out; first | omega | exact Nat.le_refl _⟩, ⟨by repeat (first | (with_reducible first | exact HI146.out | apply IsS51.alloc | apply IsS51.drewN | apply IsS51.drew | apply IsS51.set_0 | apply IsS51.set_1 | apply IsS51.set_2 | apply IsS51.set_3 | apply IsS51.set_4 | apply IsS51.set_5 | apply IsS51.set_6) | exact HI146.out)⟩, ⟨by repeat (first | (with_reducible first | exact HB.out | apply below_alloc | apply pw_below_drewN | apply below_drew1 | refine below_set ?_ (IsS51.ge HI146.out)) | exact HB.out)⟩⟩
            case rest =>
              clear HC38
              try clear c1
              try clear c2
              try clear p2
              try clear c4
              try clear c6
              try clear c6b0
              try clear c6b1
              try clear c7
              try clear c7b0
              try clear c7b1
              try clear c9
              try clear c9b0
              try clear c10
              try clear c12
              try clear c15
              try clear c16
              try clear c19
              try clear c22
              try clear c22b0
              try clear c22b1
              try clear c24
              try clear c24b0
              try clear c24b1
              try clear c26
              try clear c40
              try clear c40b0
              try clear c40b1
              try clear c42
              try clear p2
              obtain ⟨kq, x6_37, x147000_37, x147001_37, x147002_37, x147003_37, x147004_37, x147005_37, x147006_37, rfl, HA, HJ37, HI146, HB⟩ := hcut
              cases kq with
              | zero => exact absurd HA.out (by simp [scriptoriumlaw06_awake_in.j2])
              | succ kj37 =>
                have H := HA.out
                clear HA
                simp only [scriptoriumlaw06_awake_in.j2] at H
                replace H := Option.bind_eq_some_iff.mp H
                obtain ⟨⟨t238, t239, t240, t241, t242, t243, t244, t245⟩, A500, H⟩ := H
                replace H : ((clock_Clock_Now.f t239 t240 t241 t242 t243 t244 t245).bind fun bt246 => (if x5_19 = true then (if x6_37 = true then (if t238 = 0 then (if bt246.2.2.1 = 61 then ((clock_Clock_Raise.f bt246.2.2.2.1 bt246.2.2.2.2.1 bt246.2.2.2.2.2.1 bt246.2.2.2.2.2.2.1 bt246.2.2.2.2.2.2.2.1 bt246.2.2.2.2.2.2.2.2.1 bt246.2.2.2.2.2.2.2.2.2 60).bind fun bt257 => (if bt257.1 = 0 then ((scriptoriumlaw06_tells.f bt257.2.1 bt257.2.2.1 bt257.2.2.2.1 bt257.2.2.2.2.1 bt257.2.2.2.2.2.1 bt257.2.2.2.2.2.2.1 bt257.2.2.2.2.2.2.2 50 0).bind fun bt265 => (some bt265.1)) else (some false))) else (some false)) else (some false)) else (some false)) else (some false))) = some r := H
                have A50 := Aside0.mk A500
                clear A500
                replace H := Option.bind_eq_some_iff.mp H
                obtain ⟨⟨t246, t247, t248, t249, t250, t251, t252, t253, t254, t255⟩, A510, H⟩ := H
                replace H : (if x5_19 = true then (if x6_37 = true then (if t238 = 0 then (if t248 = 61 then ((clock_Clock_Raise.f t249 t250 t251 t252 t253 t254 t255 60).bind fun bt257 => (if bt257.1 = 0 then ((scriptoriumlaw06_tells.f bt257.2.1 bt257.2.2.1 bt257.2.2.2.1 bt257.2.2.2.2.1 bt257.2.2.2.2.2.1 bt257.2.2.2.2.2.2.1 bt257.2.2.2.2.2.2.2 50 0).bind fun bt265 => (some bt265.1)) else (some false))) else (some false)) else (some false)) else (some false)) else (some false)) = some r := H
                have A51 := Aside0.mk A510
                clear A510
                by_cases c52 : x5_19 = true
                · subst c52
                  have H1 : (if x6_37 = true then (if t238 = 0 then (if t248 = 61 then ((clock_Clock_Raise.f t249 t250 t251 t252 t253 t254 t255 60).bind fun bt257 => (if bt257.1 = 0 then ((scriptoriumlaw06_tells.f bt257.2.1 bt257.2.2.1 bt257.2.2.2.1 bt257.2.2.2.2.1 bt257.2.2.2.2.2.1 bt257.2.2.2.2.2.2.1 bt257.2.2.2.2.2.2.2 50 0).bind fun bt265 => (some bt265.1)) else (some false))) else (some false)) else (some false)) else (some false)) = some r := by rw [if_pos rfl] at H; exact H
                  clear H
                  have H := H1
                  clear H1
                  by_cases c53 : x6_37 = true
                  · subst c53
                    have H1 : (if t238 = 0 then (if t248 = 61 then ((clock_Clock_Raise.f t249 t250 t251 t252 t253 t254 t255 60).bind fun bt257 => (if bt257.1 = 0 then ((scriptoriumlaw06_tells.f bt257.2.1 bt257.2.2.1 bt257.2.2.2.1 bt257.2.2.2.2.1 bt257.2.2.2.2.2.1 bt257.2.2.2.2.2.2.1 bt257.2.2.2.2.2.2.2 50 0).bind fun bt265 => (some bt265.1)) else (some false))) else (some false)) else (some false)) = some r := by rw [if_pos rfl] at H; exact H
                    clear H
                    have H := H1
                    clear H1
                    by_cases c54 : t238 = 0
                    · rw [if_pos c54] at H
                      have c54b0 : (t238 == 0) = true := beq_iff_eq.mpr c54
                      have c54b1 : (t238 != 0) = false := bne_eq_false_iff_eq.mpr c54
                      clear c54
                      by_cases c55 : t248 = 61
                      · rw [if_pos c55] at H
                        have c55b0 : (t248 == 61) = true := beq_iff_eq.mpr c55
                        have c55b1 : (t248 != 61) = false := bne_eq_false_iff_eq.mpr c55
                        clear c55
                        replace H := Option.bind_eq_some_iff.mp H
                        obtain ⟨⟨t257, t258, t259, t260, t261, t262, t263, t264⟩, A560, H⟩ := H
                        replace H : (if t257 = 0 then ((scriptoriumlaw06_tells.f t258 t259 t260 t261 t262 t263 t264 50 0).bind fun bt265 => (some bt265.1)) else (some false)) = some r := H
                        have A56 := Aside0.mk A560
                        clear A560
                        by_cases c57 : t257 = 0
                        · rw [if_pos c57] at H
                          have c57b0 : (t257 == 0) = true := beq_iff_eq.mpr c57
                          have c57b1 : (t257 != 0) = false := bne_eq_false_iff_eq.mpr c57
                          clear c57
                          replace H := Option.bind_eq_some_iff.mp H
                          obtain ⟨⟨t265, t266, t267, t268, t269, t270, t271, t272⟩, A580, H⟩ := H
                          replace H : (some t265) = some r := H
                          have A58 := Aside0.mk A580
                          clear A580
                          obtain rfl := Option.some.inj H
                          go_wp2_with (first | ((with_reducible refine gate_callee (f := 11) rfl ?_); refine goesL_ (some 70) rfl rfl Try.func11 (by kernel_rfl) rfl #[.pointer (some ⟨g146, 0, none⟩), .int .i64 50] rfl (by (try simp only [List.map_toArray, List.map_cons, List.map_nil]); first | done | rfl | (simp only [List.length_drop, List.length_take]; rfl)) ?_; (with_reducible refine (clock_Clock_Set.calls g146 x147000_37 x147001_37 x147002_37 x147003_37 x147004_37 x147005_37 x147006_37 50 t238 t239 t240 t241 t242 t243 t244 t245 w _ ?side1 ?side2 A50.out).mono ?_); (case side1 => repeat (first | (with_reducible first | exact HI146.out | apply IsS51.alloc | apply IsS51.drewN | apply IsS51.drew | apply IsS51.set_0 | apply IsS51.set_1 | apply IsS51.set_2 | apply IsS51.set_3 | apply IsS51.set_4 | apply IsS51.set_5 | apply IsS51.set_6) | exact HI146.out)); (case side2 => repeat (first | (with_reducible first | exact HB.out | apply below_alloc | apply pw_below_drewN | apply below_drew1 | refine below_set ?_ (IsS51.ge HI146.out)) | exact HB.out)); rintro e w59 ⟨rfl, hi, hb, hk⟩; refine ⟨_, rfl, ?_⟩; have n0_ := Aside0.mk (hb); have n1_ := Aside0.mk (hi); clear HB; clear HI146; have HB := n0_; have HI146 := n1_; clear n0_ n1_; (try clear hb); (try clear hb2); (try clear hk); (try clear hi); (try clear hgn)) | ((with_reducible refine gate_callee (f := 14) rfl ?_); refine goesL_ (some 74) rfl rfl Try.func14 (by kernel_rfl) rfl #[.pointer (some ⟨g146, 0, none⟩)] rfl (by (try simp only [List.map_toArray, List.map_cons, List.map_nil]); first | done | rfl | (simp only [List.length_drop, List.length_take]; rfl)) ?_; (with_reducible refine (clock_Clock_Now.calls g146 t239 t240 t241 t242 t243 t244 t245 t246 t247 t248 t249 t250 t251 t252 t253 t254 t255 w _ ?side1 ?side2 A51.out).mono ?_); (case side1 => repeat (first | (with_reducible first | exact HI146.out | apply IsS51.alloc | apply IsS51.drewN | apply IsS51.drew | apply IsS51.set_0 | apply IsS51.set_1 | apply IsS51.set_2 | apply IsS51.set_3 | apply IsS51.set_4 | apply IsS51.set_5 | apply IsS51.set_6) | exact HI146.out)); (case side2 => repeat (first | (with_reducible first | exact HB.out | apply below_alloc | apply pw_below_drewN | apply below_drew1 | refine below_set ?_ (IsS51.ge HI146.out)) | exact HB.out)); rintro e w60 ⟨rfl, hi, hb, hk⟩; refine ⟨_, rfl, ?_⟩; have n0_ := Aside0.mk (hb); have n1_ := Aside0.mk (hi); clear HB; clear HI146; have HB := n0_; have HI146 := n1_; clear n0_ n1_; (try clear hb); (try clear hb2); (try clear hk); (try clear hi); (try clear hgn)) | ((with_reducible refine gate_dst (N := 8) rfl ?_); refine box_event ?hg (N := 8) ?hd (cs := #[.int .i64 0, .int .i64 0]) (t := 33) ?hr ?_; (case hd => rfl); (case hg => rfl); (case hr => first | (go_simp; done) | (go_simp; rfl)); intro gb256 hg w61 hbox hb; have n0_ := Aside0.mk (IsS51.below (by repeat (first | (with_reducible first | exact HI146.out | apply IsS51.alloc | apply IsS51.drewN | apply IsS51.drew | apply IsS51.set_0 | apply IsS51.set_1 | apply IsS51.set_2 | apply IsS51.set_3 | apply IsS51.set_4 | apply IsS51.set_5 | apply IsS51.set_6) | exact HI146.out)) hb); have n1_ := Aside0.mk (below_step (by repeat (first | (with_reducible first | exact HB.out | apply below_alloc | apply pw_below_drewN | apply below_drew1 | refine below_set ?_ (IsS51.ge HI146.out)) | exact HB.out)) hb); have n2_ := Aside0.mk (hbox); have n3_ := Aside0.mk ((by rw [hg]; exact (below_size (by repeat (first | (with_reducible first | exact HB.out | apply below_alloc | apply pw_below_drewN | apply below_drew1 | refine below_set ?_ (IsS51.ge HI146.out)) | exact HB.out))) : w.heap.size ≤ gb256)); have n4_ := Aside0.mk ((by rw [hg]; exact (below_size (by repeat (first | (with_reducible first | exact HB.out | apply below_alloc | apply pw_below_drewN | apply below_drew1 | refine below_set ?_ (IsS51.ge HI146.out)) | exact HB.out))) : w.heap.size ≤ gb256)); have n5_ := Aside0.mk ((by rw [hg]; exact Nat.ne_of_lt (IsS51.lt (show IsS51 w _ g146 t249 t250 t251 t252 t253 t254 t255 from by repeat (first | (with_reducible first | exact HI146.out | apply IsS51.alloc | apply IsS51.drewN | apply IsS51.drew | apply IsS51.set_0 | apply IsS51.set_1 | apply IsS51.set_2 | apply IsS51.set_3 | apply IsS51.set_4 | apply IsS51.set_5 | apply IsS51.set_6) | exact HI146.out))) : g146 ≠ gb256)); have n6_ := Aside0.mk ((by rw [hg]; exact Nat.ne_of_gt (IsS51.lt (show IsS51 w _ g146 t249 t250 t251 t252 t253 t254 t255 from by repeat (first | (with_reducible first | exact HI146.out | apply IsS51.alloc | apply IsS51.drewN | apply IsS51.drew | apply IsS51.set_0 | apply IsS51.set_1 | apply IsS51.set_2 | apply IsS51.set_3 | apply IsS51.set_4 | apply IsS51.set_5 | apply IsS51.set_6) | exact HI146.out))) : gb256 ≠ g146)); clear HI146; clear HB; have HI146 := n0_; have HB := n1_; have BK256 := n2_; have GW256 := n3_; have GE256 := n4_; have NB146_256 := n5_; have NB256_146 := n6_; clear n0_ n1_ n2_ n3_ n4_ n5_ n6_; clear hb hbox hg; have hnb62 := NB256_146.out; have hnc62 := NB146_256.out; have hcz63_0 : w61.cell? ⟨gb256, 0, none⟩ = some (.int .i64 0) := (blk_cell BK256.out 0).trans rfl; have hcz63_1 : w61.cell? ⟨gb256, 1, none⟩ = some (.int .i64 0) := (blk_cell BK256.out 1).trans rfl; have hfz63_0 := blk_frozen BK256.out 0; have hfz63_1 := blk_frozen BK256.out 1) | (go_at_call 10; (with_reducible refine (clock_Clock_Raise.calls g146 t249 t250 t251 t252 t253 t254 t255 60 t257 t258 t259 t260 t261 t262 t263 t264 w _ ?side1 ?side2 A56.out).mono ?_); (case side1 => repeat (first | (with_reducible first | exact HI146.out | apply IsS51.alloc | apply IsS51.drewN | apply IsS51.drew | apply IsS51.set_0 | apply IsS51.set_1 | apply IsS51.set_2 | apply IsS51.set_3 | apply IsS51.set_4 | apply IsS51.set_5 | apply IsS51.set_6 | refine IsS51.far ?_ NB146_256.out _) | exact HI146.out)); (case side2 => repeat (first | (with_reducible first | exact HB.out | apply below_alloc | apply pw_below_drewN | apply below_drew1 | refine below_set ?_ (IsS51.ge HI146.out) | refine below_set ?_ GE256.out) | exact HB.out)); rintro e w64 ⟨rfl, hi, hb, hk⟩; have n0_ := Aside0.mk (KeepBut.blk hk (g' := gb256) (o := .cells #[.int .i64 t246, .int .i64 t247] 33 (0, 0)) (by (with_reducible repeat (first | refine blk_drewN ?_ _ | refine blk_drew ?_ | refine blk_alloc ?_ _)); refine blk_put (cs := #[.int .i64 t246, .int .i64 0]) ?_ 1 _ rfl; (with_reducible repeat (first | refine blk_drewN ?_ _ | refine blk_drew ?_ | refine blk_alloc ?_ _)); refine blk_put (cs := #[.int .i64 0, .int .i64 0]) ?_ 0 _ rfl; (with_reducible repeat (first | refine blk_drewN ?_ _ | refine blk_drew ?_ | refine blk_alloc ?_ _)); exact BK256.out) NB256_146.out (by simp)); have n1_ := Aside0.mk (hb); have n2_ := Aside0.mk (hi); clear BK256; clear HB; clear HI146; have BK256 := n0_; have HB := n1_; have HI146 := n2_; clear n0_ n1_ n2_; (try clear hb); (try clear hb2); (try clear hk); (try clear hi); (try clear hgn)) | (go_at_call 33; (with_reducible refine (scriptoriumlaw06_tells.calls g146 t258 t259 t260 t261 t262 t263 t264 50 0 t265 t266 t267 t268 t269 t270 t271 t272 w _ ?side1 ?side2 A58.out).mono ?_); (case side1 => repeat (first | (with_reducible first | exact HI146.out | apply IsS51.alloc | apply IsS51.drewN | apply IsS51.drew | apply IsS51.set_0 | apply IsS51.set_1 | apply IsS51.set_2 | apply IsS51.set_3 | apply IsS51.set_4 | apply IsS51.set_5 | apply IsS51.set_6 | refine IsS51.far ?_ NB146_256.out _) | exact HI146.out)); (case side2 => repeat (first | (with_reducible first | exact HB.out | apply below_alloc | apply pw_below_drewN | apply below_drew1 | refine below_set ?_ (IsS51.ge HI146.out) | refine below_set ?_ GE256.out) | exact HB.out)); rintro e w65 ⟨rfl, hi, hb, hk⟩; have n0_ := Aside0.mk (KeepBut.blk hk (g' := gb256) (o := .cells #[.int .i64 t246, .int .i64 t247] 33 (0, 0)) (by (with_reducible repeat (first | refine blk_drewN ?_ _ | refine blk_drew ?_ | refine blk_alloc ?_ _)); exact BK256.out) NB256_146.out (by simp)); have n1_ := Aside0.mk (hb); have n2_ := Aside0.mk (hi); clear BK256; clear HB; clear HI146; have BK256 := n0_; have HB := n1_; have HI146 := n2_; clear n0_ n1_ n2_; (try clear hb); (try clear hb2); (try clear hk); (try clear hi); (try clear hgn)))
                          go_ret
                          exact ⟨by first | rfl | (simp [errW_none, errW_some] <;> rfl) | (simp [*, errW_none, errW_some] <;> rfl), by repeat (first | (with_reducible first | exact HB.out | apply below_alloc | apply pw_below_drewN | apply below_drew1 | refine below_set ?_ (IsS51.ge HI146.out) | refine below_set ?_ GE256.out) | exact HB.out)⟩
                        · rw [if_neg c57] at H
                          have c57b0 : (t257 == 0) = false := beq_eq_false_iff_ne.mpr c57
                          have c57b1 : (t257 != 0) = true := bne_iff_ne.mpr c57
                          exact absurd (Option.some.inj (H.trans (congrArg some hrt))) (by decide)
                      · rw [if_neg c55] at H
                        have c55b0 : (t248 == 61) = false := beq_eq_false_iff_ne.mpr c55
                        have c55b1 : (t248 != 61) = true := bne_iff_ne.mpr c55
                        exact absurd (Option.some.inj (H.trans (congrArg some hrt))) (by decide)
                    · rw [if_neg c54] at H
                      have c54b0 : (t238 == 0) = false := beq_eq_false_iff_ne.mpr c54
                      have c54b1 : (t238 != 0) = true := bne_iff_ne.mpr c54
                      exact absurd (Option.some.inj (H.trans (congrArg some hrt))) (by decide)
                  · replace c53 := Bool.eq_false_iff.mpr c53
                    subst c53
                    have H1 : (some false) = some r := by rw [if_neg (show ¬ (false = true) by decide)] at H; exact H
                    clear H
                    have H := H1
                    clear H1
                    exact absurd (Option.some.inj (H.trans (congrArg some hrt))) (by decide)
                · replace c52 := Bool.eq_false_iff.mpr c52
                  subst c52
                  have H1 : (some false) = some r := by rw [if_neg (show ¬ (false = true) by decide)] at H; exact H
                  clear H
                  have H := H1
                  clear H1
                  exact absurd (Option.some.inj (H.trans (congrArg some hrt))) (by decide)

/-- Where it is true; else nothing is told. -/
def scriptoriumlaw06_awake.f (k : Nat)  : Option (Bool) := (scriptoriumlaw06_awake_in.f k).bind fun r_ => if r_ = true then some true else none
theorem scriptoriumlaw06_awake.mono : ∀ k, LeO (scriptoriumlaw06_awake.f k ) (scriptoriumlaw06_awake.f (k + 1) ) := fun k => LeO.bind (scriptoriumlaw06_awake_in.mono k) (fun _ => LeO.refl _)
theorem scriptoriumlaw06_awake.calls (k : Nat)  (r : Bool) (w : World) (h : scriptoriumlaw06_awake.f k = some r) :
    Calls Try.prog 16 #[] w fun e w' => e = .returned (.bool r) ∧ Below w.heap.size w w' := by
  obtain ⟨r_, h1, h2⟩ := Option.bind_eq_some_iff.mp h
  cases r_ with
  | false => exact absurd h2 (by simp)
  | true =>
    have hrt := (Option.some.inj h2).symm
    exact scriptoriumlaw06_awake_in.calls k r w (h1.trans (congrArg some hrt.symm)) hrt

/-! ### clock_Clock_Bound: function 22 (a leaf, by hand) -/
def clock_Clock_Bound.f (o r f b w l : Int) (m : Bool) : Option (Int × Int × Int × Int × Int × Int × Int × Bool) := if m = true then some ((⟨o, r, f, b, w, l⟩ : Ck).b, (⟨o, r, f, b, w, l⟩ : Ck).o, (⟨o, r, f, b, w, l⟩ : Ck).r, (⟨o, r, f, b, w, l⟩ : Ck).f, (⟨o, r, f, b, w, l⟩ : Ck).b, (⟨o, r, f, b, w, l⟩ : Ck).w, (⟨o, r, f, b, w, l⟩ : Ck).l, true) else none
theorem clock_Clock_Bound.calls (g : Nat) (o r f b w l : Int) (m : Bool) (r1 : Int) (r2 : Int) (r3 : Int) (r4 : Int) (r5 : Int) (r6 : Int) (r7 : Int) (r8 : Bool) (w0 W : World) (hI : IsS51 w0 W g o r f b w l m) (hB : Below w0.heap.size w0 W) (h : clock_Clock_Bound.f o r f b w l m = some (r1, r2, r3, r4, r5, r6, r7, r8)) :
    Calls Try.prog 22 #[.pointer (some ⟨g, 0, none⟩)] W fun e w' => e = .returned (.int .i64 r1) ∧ IsS51 w0 w' g r2 r3 r4 r5 r6 r7 r8 ∧ Below w0.heap.size w0 w' ∧ KeepBut W w' g none := by
  unfold clock_Clock_Bound.f at h
  by_cases hm : m = true
  case neg => rw [if_neg hm] at h; exact absurd h (by simp)
  rw [if_pos hm] at h
  simp only [Option.some.injEq, Prod.mk.injEq] at h
  obtain ⟨rfl, rfl, rfl, rfl, rfl, rfl, rfl, rfl⟩ := h
  subst hm
  obtain ⟨hl, hg⟩ := hI
  refine (ck_bound (⟨o, r, f, b, w, l⟩ : Ck) g W hl).mono ?_
  rintro e w' ⟨rfl, hb⟩
  exact ⟨rfl, ⟨(hb.block _ (blk_lt hl)).trans hl, hg⟩, below_step hB hb, KeepBut.of_below hb _ _⟩

end Go.Proofs.Ythhgoiabkgfdfaa.PClockStays
