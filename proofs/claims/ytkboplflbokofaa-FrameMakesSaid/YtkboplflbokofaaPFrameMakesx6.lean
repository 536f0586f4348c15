/- Written by xprint.py, a program of these sessions (over the print of the kit, with leaves typed by hand): one Lean function for each Go function, and the proof that the Go code comes to its answers. -/
import Derived.Test.YtkboplflbokofaaPFrameMakesx0
import Derived.Test.YtkboplflbokofaaPFrameMakesx1
import Derived.Test.YtkboplflbokofaaPFrameMakesx2
import Derived.Test.YtkboplflbokofaaPFrameMakesx3
import Derived.Test.YtkboplflbokofaaPFrameMakesx5
namespace Go.Proofs.Ytkboplflbokofaa.PFrameMakes
open Go.RowKit Go.Proofs.YtkboplflbokofaaW.PrintWords Go.Proofs.YtkboplflbokofaaW.PrintLast Go.Proofs.YtkboplflbokofaaW.PrintMore
attribute [local go_sem] max2_int min2_int max_two min_two max_three min_three max_four min_four   -- for this text's walks alone
set_option linter.unusedVariables false
set_option linter.unusedSimpArgs false

/-! ### scriptoriumlaw04_FrameMakes: function 3 -/
mutual
def scriptoriumlaw04_FrameMakes.j0 : Nat → List Int → List Int → Bool → Option (Bool)
  | 0, _, _, _ => none
  | k + 1, x0, x3, x43 => if x43 = true then (some false) else (scriptoriumlaw04_FrameMakes.l0 k x3 (x0.length : Int))
def scriptoriumlaw04_FrameMakes.l0 : Nat → List Int → Int → Option (Bool)
  | 0, _, _ => none
  | k + 1, x3, x8 => if x8 < (x3.length : Int) then (if 0 ≤ x8 then (if (rd x3 x8) = 7 then (scriptoriumlaw04_FrameMakes.l0 k x3 (wrap64 (x8 + 1))) else (some false)) else (none)) else ((scriptoriumlaw04_works.f k).bind fun t285 => (some t285))
end
def scriptoriumlaw04_FrameMakes.f (k : Nat) (l0 : List Int) : Option (Bool) := (scriptoriumref00_CopyBytes.f l0).bind fun t257 => ((some (([7, 7, 7, 7, 7, 7, 7, 7] : List Int) : List Int)).bind fun y260 => (if t257.length + y260.length < 140737488355328 then ((some (t257 ++ y260 : List Int)).bind fun y263 => (if 0 ≤ (l0.length : Int) then (if (l0.length : Int) ≤ (y263.length : Int) then ((frame_Frame.f k (y263.take ((l0.length : Int) : Int).toNat)).bind fun bt270 => ((scriptoriumref04_Frame.f k l0).bind fun bt274 => ((scriptoriumref00_EqBytes.f k bt270.1 bt274.1).bind fun t278 => (if t278 = true then (if bt270.2 = bt274.2 then ((scriptoriumref00_EqBytes.f k (y263.take ((l0.length : Int) : Int).toNat) l0).bind fun t283 => (scriptoriumlaw04_FrameMakes.j0 k l0 y263 (!t283))) else (scriptoriumlaw04_FrameMakes.j0 k l0 y263 true)) else (scriptoriumlaw04_FrameMakes.j0 k l0 y263 true))))) else (none)) else (none))) else (none)))
theorem scriptoriumlaw04_FrameMakes.mono_l : ∀ k, (∀ y0 y1 y2, LeO (scriptoriumlaw04_FrameMakes.j0 k y0 y1 y2) (scriptoriumlaw04_FrameMakes.j0 (k + 1) y0 y1 y2)) ∧ (∀ y0 y1, LeO (scriptoriumlaw04_FrameMakes.l0 k y0 y1) (scriptoriumlaw04_FrameMakes.l0 (k + 1) y0 y1))
  | 0 => ⟨fun _ _ _ r h => by simp [scriptoriumlaw04_FrameMakes.j0] at h, fun _ _ r h => by simp [scriptoriumlaw04_FrameMakes.l0] at h⟩
  | k + 1 => by
    obtain ⟨ih0, ih1⟩ := scriptoriumlaw04_FrameMakes.mono_l k
    refine ⟨?_, ?_⟩
    · intro y0 y1 y2
      unfold scriptoriumlaw04_FrameMakes.j0
      repeat' first
      | (with_reducible exact ih0 _ _ _)
      | (with_reducible exact ih1 _ _)
      | (with_reducible exact frame_Frame.mono _ _)
      | (with_reducible exact scriptoriumlaw04_works.mono _)
      | (with_reducible exact scriptoriumref00_EqBytes.mono _ _ _)
      | (with_reducible exact scriptoriumref04_Frame.mono _ _)
      | (with_reducible exact LeO.refl _)
      | (with_reducible exact LeO.none _)
      | (with_reducible refine LeO.ite ?_ ?_)
      | (with_reducible refine LeO.bind ?_ (fun _ => ?_))
      | exact ih0 _ _ _
      | exact ih1 _ _
      | exact frame_Frame.mono _ _
      | exact scriptoriumlaw04_works.mono _
      | exact scriptoriumref00_EqBytes.mono _ _ _
      | exact scriptoriumref04_Frame.mono _ _
      | exact LeO.none _
      | refine LeO.ite ?_ ?_
      | refine LeO.bind ?_ (fun _ => ?_)
    · intro y0 y1
      unfold scriptoriumlaw04_FrameMakes.l0
      repeat' first
      | (with_reducible exact ih0 _ _ _)
      | (with_reducible exact ih1 _ _)
      | (with_reducible exact frame_Frame.mono _ _)
      | (with_reducible exact scriptoriumlaw04_works.mono _)
      | (with_reducible exact scriptoriumref00_EqBytes.mono _ _ _)
      | (with_reducible exact scriptoriumref04_Frame.mono _ _)
      | (with_reducible exact LeO.refl _)
      | (with_reducible exact LeO.none _)
      | (with_reducible refine LeO.ite ?_ ?_)
      | (with_reducible refine LeO.bind ?_ (fun _ => ?_))
      | exact ih0 _ _ _
      | exact ih1 _ _
      | exact frame_Frame.mono _ _
      | exact scriptoriumlaw04_works.mono _
      | exact scriptoriumref00_EqBytes.mono _ _ _
      | exact scriptoriumref04_Frame.mono _ _
      | exact LeO.none _
      | refine LeO.ite ?_ ?_
      | refine LeO.bind ?_ (fun _ => ?_)
theorem scriptoriumlaw04_FrameMakes.mono : ∀ a0 k, LeO (scriptoriumlaw04_FrameMakes.f k a0) (scriptoriumlaw04_FrameMakes.f (k + 1) a0) := by
  intro a0 k
  obtain ⟨ih0, ih1⟩ := scriptoriumlaw04_FrameMakes.mono_l k
  unfold scriptoriumlaw04_FrameMakes.f
  repeat' first
      | (with_reducible exact ih0 _ _ _)
      | (with_reducible exact ih1 _ _)
      | (with_reducible exact frame_Frame.mono _ _)
      | (with_reducible exact scriptoriumlaw04_works.mono _)
      | (with_reducible exact scriptoriumref00_EqBytes.mono _ _ _)
      | (with_reducible exact scriptoriumref04_Frame.mono _ _)
      | (with_reducible exact LeO.refl _)
      | (with_reducible exact LeO.none _)
      | (with_reducible refine LeO.ite ?_ ?_)
      | (with_reducible refine LeO.bind ?_ (fun _ => ?_))
      | exact ih0 _ _ _
      | exact ih1 _ _
      | exact frame_Frame.mono _ _
      | exact scriptoriumlaw04_works.mono _
      | exact scriptoriumref00_EqBytes.mono _ _ _
      | exact scriptoriumref04_Frame.mono _ _
      | exact LeO.none _
      | refine LeO.ite ?_ ?_
      | refine LeO.bind ?_ (fun _ => ?_)
set_option maxHeartbeats 8000000 in
set_option maxRecDepth 100000 in
theorem scriptoriumlaw04_FrameMakes.calls (k : Nat) (A0 : Option Addr) (c0 : Nat) (l0 : List Int) (r : Bool) (w : World) (hr0 : Kd.C (Kd.int .u8) w A0 l0.length l0) (hc0 : l0.length ≤ c0) (h : scriptoriumlaw04_FrameMakes.f k l0 = some r) (hrt : r = true) :
    Calls Try.prog 3 #[.slice A0 l0.length c0] w fun e w' => e = .returned (.bool r) ∧ Below w.heap.size w w' := by
  have HR0 := Aside0.mk hr0
  have HC0 := Aside0.mk hc0
  clear hr0 hc0
  have HB := Aside0.mk (Below.refl w.heap.size w)
  have H : ((scriptoriumref00_CopyBytes.f l0).bind fun t257 => ((some (([7, 7, 7, 7, 7, 7, 7, 7] : List Int) : List Int)).bind fun y260 => (if t257.length + y260.length < 140737488355328 then ((some (t257 ++ y260 : List Int)).bind fun y263 => (if 0 ≤ (l0.length : Int) then (if (l0.length : Int) ≤ (y263.length : Int) then ((frame_Frame.f k (y263.take ((l0.length : Int) : Int).toNat)).bind fun bt270 => ((scriptoriumref04_Frame.f k l0).bind fun bt274 => ((scriptoriumref00_EqBytes.f k bt270.1 bt274.1).bind fun t278 => (if t278 = true then (if bt270.2 = bt274.2 then ((scriptoriumref00_EqBytes.f k (y263.take ((l0.length : Int) : Int).toNat) l0).bind fun t283 => (scriptoriumlaw04_FrameMakes.j0 k l0 y263 (!t283))) else (scriptoriumlaw04_FrameMakes.j0 k l0 y263 true)) else (scriptoriumlaw04_FrameMakes.j0 k l0 y263 true))))) else (none)) else (none))) else (none)))) = some r := h
  clear h
  replace H := Option.bind_eq_some_iff.mp H
  obtain ⟨t257, A20, H⟩ := H
  replace H : ((some (([7, 7, 7, 7, 7, 7, 7, 7] : List Int) : List Int)).bind fun y260 => (if t257.length + y260.length < 140737488355328 then ((some (t257 ++ y260 : List Int)).bind fun y263 => (if 0 ≤ (l0.length : Int) then (if (l0.length : Int) ≤ (y263.length : Int) then ((frame_Frame.f k (y263.take ((l0.length : Int) : Int).toNat)).bind fun bt270 => ((scriptoriumref04_Frame.f k l0).bind fun bt274 => ((scriptoriumref00_EqBytes.f k bt270.1 bt274.1).bind fun t278 => (if t278 = true then (if bt270.2 = bt274.2 then ((scriptoriumref00_EqBytes.f k (y263.take ((l0.length : Int) : Int).toNat) l0).bind fun t283 => (scriptoriumlaw04_FrameMakes.j0 k l0 y263 (!t283))) else (scriptoriumlaw04_FrameMakes.j0 k l0 y263 true)) else (scriptoriumlaw04_FrameMakes.j0 k l0 y263 true))))) else (none)) else (none))) else (none))) = some r := H
  have A2 := Aside0.mk A20
  clear A20
  obtain ⟨y260, hy260⟩ : ∃ y_ : List Int, y_ = (([7, 7, 7, 7, 7, 7, 7, 7] : List Int)) := ⟨_, rfl⟩
  replace H : (if t257.length + y260.length < 140737488355328 then ((some (t257 ++ y260 : List Int)).bind fun y263 => (if 0 ≤ (l0.length : Int) then (if (l0.length : Int) ≤ (y263.length : Int) then ((frame_Frame.f k (y263.take ((l0.length : Int) : Int).toNat)).bind fun bt270 => ((scriptoriumref04_Frame.f k l0).bind fun bt274 => ((scriptoriumref00_EqBytes.f k bt270.1 bt274.1).bind fun t278 => (if t278 = true then (if bt270.2 = bt274.2 then ((scriptoriumref00_EqBytes.f k (y263.take ((l0.length : Int) : Int).toNat) l0).bind fun t283 => (scriptoriumlaw04_FrameMakes.j0 k l0 y263 (!t283))) else (scriptoriumlaw04_FrameMakes.j0 k l0 y263 true)) else (scriptoriumlaw04_FrameMakes.j0 k l0 y263 true))))) else (none)) else (none))) else (none)) = some r := by first | (rw [hy260]; with_reducible exact H) | (have H2_ := (Option.bind_some _ _).symm.trans H; rw [hy260]; with_reducible exact H2_) | (have H2_ := (Option.bind_some _ _).symm.trans H; with_reducible exact H2_) | with_reducible exact H | (rw [hy260]; exact H) | exact H
  have Ny260 := Aside0.mk hy260
  clear hy260
  by_cases c3 : t257.length + y260.length < 140737488355328
  · rw [if_pos c3] at H
    have LMc3 := Aside0.mk c3
    clear c3
    obtain ⟨y263, hy263⟩ : ∃ y_ : List Int, y_ = (t257 ++ y260) := ⟨_, rfl⟩
    replace H : (if 0 ≤ (l0.length : Int) then (if (l0.length : Int) ≤ (y263.length : Int) then ((frame_Frame.f k (y263.take ((l0.length : Int) : Int).toNat)).bind fun bt270 => ((scriptoriumref04_Frame.f k l0).bind fun bt274 => ((scriptoriumref00_EqBytes.f k bt270.1 bt274.1).bind fun t278 => (if t278 = true then (if bt270.2 = bt274.2 then ((scriptoriumref00_EqBytes.f k (y263.take ((l0.length : Int) : Int).toNat) l0).bind fun t283 => (scriptoriumlaw04_FrameMakes.j0 k l0 y263 (!t283))) else (scriptoriumlaw04_FrameMakes.j0 k l0 y263 true)) else (scriptoriumlaw04_FrameMakes.j0 k l0 y263 true))))) else (none)) else (none)) = some r := by first | (rw [hy263]; with_reducible exact H) | (have H2_ := (Option.bind_some _ _).symm.trans H; rw [hy263]; with_reducible exact H2_) | (have H2_ := (Option.bind_some _ _).symm.trans H; with_reducible exact H2_) | with_reducible exact H | (rw [hy263]; exact H) | exact H
    have Ny263 := Aside0.mk hy263
    clear hy263
    by_cases c4 : 0 ≤ (l0.length : Int)
    · rw [if_pos c4] at H
      have c4b0 := eq_true c4
      have c4b1 : decide (0 ≤ (l0.length : Int)) = true := decide_eq_true c4
      clear c4
      by_cases c5 : (l0.length : Int) ≤ (y263.length : Int)
      · rw [if_pos c5] at H
        have c5b0 := eq_true c5
        have c5b1 : decide ((l0.length : Int) ≤ (y263.length : Int)) = true := decide_eq_true c5
        clear c5
        obtain ⟨y266, hy266⟩ : ∃ y_ : List Int, y_ = (y263.take ((l0.length : Int) : Int).toNat) := ⟨_, rfl⟩
        replace H : ((frame_Frame.f k y266).bind fun bt270 => ((scriptoriumref04_Frame.f k l0).bind fun bt274 => ((scriptoriumref00_EqBytes.f k bt270.1 bt274.1).bind fun t278 => (if t278 = true then (if bt270.2 = bt274.2 then ((scriptoriumref00_EqBytes.f k (y263.take ((l0.length : Int) : Int).toNat) l0).bind fun t283 => (scriptoriumlaw04_FrameMakes.j0 k l0 y263 (!t283))) else (scriptoriumlaw04_FrameMakes.j0 k l0 y263 true)) else (scriptoriumlaw04_FrameMakes.j0 k l0 y263 true))))) = some r := by first | (rw [hy266]; with_reducible exact H) | (have H2_ := (Option.bind_some _ _).symm.trans H; rw [hy266]; with_reducible exact H2_) | (have H2_ := (Option.bind_some _ _).symm.trans H; with_reducible exact H2_) | with_reducible exact H | (rw [hy266]; exact H) | exact H
        have Ny266 := Aside0.mk hy266
        clear hy266
        replace H := Option.bind_eq_some_iff.mp H
        obtain ⟨⟨t270, t273⟩, A60, H⟩ := H
        replace H : ((scriptoriumref04_Frame.f k l0).bind fun bt274 => ((scriptoriumref00_EqBytes.f k t270 bt274.1).bind fun t278 => (if t278 = true then (if t273 = bt274.2 then ((scriptoriumref00_EqBytes.f k (y263.take ((l0.length : Int) : Int).toNat) l0).bind fun t283 => (scriptoriumlaw04_FrameMakes.j0 k l0 y263 (!t283))) else (scriptoriumlaw04_FrameMakes.j0 k l0 y263 true)) else (scriptoriumlaw04_FrameMakes.j0 k l0 y263 true)))) = some r := H
        have A6 := Aside0.mk A60
        clear A60
        replace H := Option.bind_eq_some_iff.mp H
        obtain ⟨⟨t274, t275⟩, A70, H⟩ := H
        replace H : ((scriptoriumref00_EqBytes.f k t270 t274).bind fun t278 => (if t278 = true then (if t273 = t275 then ((scriptoriumref00_EqBytes.f k (y263.take ((l0.length : Int) : Int).toNat) l0).bind fun t283 => (scriptoriumlaw04_FrameMakes.j0 k l0 y263 (!t283))) else (scriptoriumlaw04_FrameMakes.j0 k l0 y263 true)) else (scriptoriumlaw04_FrameMakes.j0 k l0 y263 true))) = some r := H
        have A7 := Aside0.mk A70
        clear A70
        have HC8 := Aside0.mk H
        clear H
        go_enter Try.func3, Try.ntmps3
        go_upto_region 4 with (first | ((with_reducible refine gate_callee (f := 12) rfl ?_); refine goesL_ (some 10) rfl rfl Try.func12 (by kernel_rfl) rfl #[.slice A0 l0.length c0] rfl (by (try simp only [List.map_toArray, List.map_cons, List.map_nil]); first | done | rfl | (simp only [List.length_drop, List.length_take]; rfl)) ?_; (with_reducible refine (scriptoriumref00_CopyBytes.calls _ _ l0 t257 _ ?side1 ?side2 A2.out).mono ?_); (case side1 => repeat (first | exact HR0.out | (with_reducible refine Kd.C_alloc ?_ _) | (with_reducible refine Kd.C_drewN ?_ _) | (with_reducible refine Kd.C_drew ?_))); (case side2 => exact HC0.out); rintro e w9 ⟨v258, rfl, ho0, hb⟩; refine ⟨_, rfl, ?_⟩; have n0_ := Aside0.mk (Kd.R_lower ho0 (below_size (by repeat (first | (with_reducible first | exact HB.out | apply below_alloc | apply pw_below_drewN | apply below_drew1) | exact HB.out)))); have n1_ := Aside0.mk (below_step (by repeat (first | (with_reducible first | exact HB.out | apply below_alloc | apply pw_below_drewN | apply below_drew1) | exact HB.out)) hb); clear HB; have HO259 := n0_; have HB := n1_; clear n0_ n1_; (try clear hb); (try clear hb2); (try clear hk); (try clear hi); (try clear ho0)) | ((with_reducible refine gate_dst (N := 11) rfl ?_); (try (refine gate_guard (by rfl) ?_; dsimp only)); refine Kd.R_lit (Kd.int .u8) _ 5 ?hg (N := 11) ?hd (xs := ([7, 7, 7, 7, 7, 7, 7, 7] : List Int)) (inner := [.int .u8 7, .int .u8 7, .int .u8 7, .int .u8 7, .int .u8 7, .int .u8 7, .int .u8 7, .int .u8 7]) (ok := fun _ => True) (okp := fun _ => True) ?hr ?hp (fun _ hk => hk) trivial (Below.refl _ _) (Nat.le_refl _) (by simp) ?_; (case hd => rfl); (case hg => rfl); (case hr => first | (go_simp; done) | (go_simp; rfl)); (case hp => exact (Reps.one (show Kd.M (Kd.int .u8) _ _ _ 7 [.int .u8 7] from rfl) (Reps.one (show Kd.M (Kd.int .u8) _ _ _ 7 [.int .u8 7] from rfl) (Reps.one (show Kd.M (Kd.int .u8) _ _ _ 7 [.int .u8 7] from rfl) (Reps.one (show Kd.M (Kd.int .u8) _ _ _ 7 [.int .u8 7] from rfl) (Reps.one (show Kd.M (Kd.int .u8) _ _ _ 7 [.int .u8 7] from rfl) (Reps.one (show Kd.M (Kd.int .u8) _ _ _ 7 [.int .u8 7] from rfl) (Reps.one (show Kd.M (Kd.int .u8) _ _ _ 7 [.int .u8 7] from rfl) (Reps.one (show Kd.M (Kd.int .u8) _ _ _ 7 [.int .u8 7] from rfl) (Reps.none _ _)))))))))); intro v261 w10 ho11 hb hg_ hnew_; clear hg_ hnew_; (first | rw [← Ny260.out] at ho11 | (simp only [Int.reduceToNat] at ho11; rw [← Ny260.out] at ho11)); have n0_ := Aside0.mk (Kd.R_elder' (by (with_reducible repeat (first | apply Kd.R_alloc | apply Kd.R_drewN | apply Kd.R_drew)); exact HO259.out) (Kd.R_base ho11) hb); have n1_ := Aside0.mk (Kd.R_lower (Kd.R_new' ho11 (Kd.R_lt (by (with_reducible repeat (first | apply Kd.R_alloc | apply Kd.R_drewN | apply Kd.R_drew)); exact HO259.out))) (below_size (by repeat (first | (with_reducible first | exact HB.out | apply below_alloc | apply pw_below_drewN | apply below_drew1) | exact HB.out)))); have n2_ := Aside0.mk (below_step (by repeat (first | (with_reducible first | exact HB.out | apply below_alloc | apply pw_below_drewN | apply below_drew1) | exact HB.out)) hb); clear HO259; clear HB; have HO259 := n0_; have HO262 := n1_; have HB := n2_; clear n0_ n1_ n2_; clear hb ho11; obtain ⟨Ao13, co13, eo13⟩ := Kd.R_slice HO262.out; subst eo13) | ((with_reducible refine gate_builtin (b := .append) (xs := #[.tmp 10, .tmp 11]) rfl ?_); (try (refine gate_guard (by rfl) ?_; dsimp only)); at_builtin; refine Kd.R_append_rows (Kd.int .u8) (w0 := w) w.heap.size rfl (.tmp 10) (.tmp 11) 22 5 (.int .u8 0) 1 rfl Try.underlying22 info5 rfl (by decide) (by omega) v258 t257 y260 _ _ _ (fun k_ => some k_ ≠ (.slice Ao13 y260.length co13 : Value).ownBlock) (fun _ => False) rfl rfl ?aO ?aR (fun _ _ h => h) (fun _ h => h.elim) ?aF ?aB ?aS ?aL ?_; (case aR => repeat (first | exact (Kd.R_reads' HO262.out).2.2 | (with_reducible refine Kd.C_alloc ?_ _) | (with_reducible refine Kd.C_drewN ?_ _) | (with_reducible refine Kd.C_drew ?_))); (case aB => exact (by repeat (first | (with_reducible first | exact HB.out | apply below_alloc | apply pw_below_drewN | apply below_drew1) | exact HB.out))); (case aF => exact (fun k_ hk => Kd.fresh' (Kd.R_lt (by (with_reducible repeat (first | apply Kd.R_alloc | apply Kd.R_drewN | apply Kd.R_drew)); exact HO262.out)) k_ hk)); (case aO => exact (by (with_reducible repeat (first | apply Kd.R_alloc | apply Kd.R_drewN | apply Kd.R_drew)); exact Kd.R_mono HO259.out (fun _ hk => hk.2))); (case aS => exact (below_size (by repeat (first | (with_reducible first | exact HB.out | apply below_alloc | apply pw_below_drewN | apply below_drew1) | exact HB.out)))); (case aL => have := LMc3.out; omega); intro v264 w12 ho hb hg hat; rw [← Ny263.out] at ho; have n0_ := Aside0.mk (Kd.R_after (ok := (fun _ => True)) (by (with_reducible repeat (first | apply Kd.R_alloc | apply Kd.R_drewN | apply Kd.R_drew)); exact HO262.out) hg hat); have n1_ := Aside0.mk (hb); have n2_ := Aside0.mk (ho); clear HO262; clear HB; clear HO259; have HO262 := n0_; have HB := n1_; have HO265 := n2_; clear n0_ n1_ n2_; clear ho hb hg hat; obtain ⟨Ao15, co15, eo15⟩ := Kd.R_slice HO265.out; subst eo15; have q14 : ((l0.length : Int) : Int) ≤ ((y263.length : Int) : Int) := of_decide_eq_true (by first | (with_reducible assumption) | assumption); obtain ⟨i014, hi014, _, hsz14, _⟩ := info_parts info5; have hroom14 : y263.length ≤ co15 := (Kd.R_reads' HO265.out).2.1; have hC14 : Kd.C (Kd.int .u8) _ Ao15 y263.length y263 := (Kd.R_reads' HO265.out).2.2; have hcut14 := cut_to (P := Try.prog) 22 5 .i64 Try.underlying22 hi014 Ao15 y263.length co15 (l0.length : Int) (of_decide_eq_true (by first | (with_reducible assumption) | assumption)) q14 hroom14; have hr14 := Kd.C_take (m := ((l0.length : Int) : Int).toNat) hC14 (by omega); have hy14 : y266.length = ((l0.length : Int) : Int).toNat := (by rw [Ny266.out, List.length_take]; omega); rw [← Ny266.out] at hr14; rw [← hy14] at hcut14; have HR269 := Aside0.mk hr14; have HC269 := Aside0.mk (show y266.length ≤ co15 from by omega); clear hr14 hC14 hroom14 hi014 hsz14; have KY14 := Aside0.mk hy14; clear hy14; have KL14 := Aside0.mk (show ((l0.length : Int) : Int).toNat ≤ y263.length from by omega); replace q14 := eq_true q14) | ((with_reducible refine gate_callee (f := 13) rfl ?_); refine goesL_ (some 18) rfl rfl Try.func13 (by kernel_rfl) rfl #[.slice Ao15 y266.length co15] rfl (by (try simp only [List.map_toArray, List.map_cons, List.map_nil]); first | done | rfl | (simp only [List.length_drop, List.length_take]; rfl)) ?_; (with_reducible refine (frame_Frame.calls k (fun k_ => True) _ _ y266 t270 t273 _ ?side1 A6.out).mono ?_); (case side1 => exact Kd.V_mono (Kd.V_mk HC269.out (Kd.C_F (Kd.heap_int .u8) (by repeat (first | exact (by repeat (first | (with_reducible exact HR269.out) | (with_reducible refine Kd.C_alloc ?_ _) | (with_reducible refine Kd.C_drewN ?_ _) | (with_reducible refine Kd.C_drew ?_) | exact HR269.out)) | (with_reducible refine Kd.C_alloc ?_ _) | (with_reducible refine Kd.C_drewN ?_ _) | (with_reducible refine Kd.C_drew ?_))))) (fun _ _ => trivial)); rintro e w16 ⟨v271, rfl, ho0, hb⟩; refine ⟨_, rfl, ?_⟩; have n0_ := Aside0.mk (Kd.R_elder' (by (with_reducible repeat (first | apply Kd.R_alloc | apply Kd.R_drewN | apply Kd.R_drew)); exact HO262.out) (Kd.R_base ho0) hb); have n1_ := Aside0.mk (Kd.R_elder' (by (with_reducible repeat (first | apply Kd.R_alloc | apply Kd.R_drewN | apply Kd.R_drew)); exact HO265.out) (Kd.R_base ho0) hb); have n2_ := Aside0.mk (Kd.R_lower (Kd.R_new' (Kd.R_new' (Kd.R_mono (ok' := fun k_ => True) ho0 (fun _ hk_ => trivial)) (Kd.R_lt (by (with_reducible repeat (first | apply Kd.R_alloc | apply Kd.R_drewN | apply Kd.R_drew)); exact HO262.out))) (Kd.R_lt (by (with_reducible repeat (first | apply Kd.R_alloc | apply Kd.R_drewN | apply Kd.R_drew)); exact HO265.out))) (below_size (by repeat (first | (with_reducible first | exact HB.out | apply below_alloc | apply pw_below_drewN | apply below_drew1) | exact HB.out)))); have n3_ := Aside0.mk (Kd.C_below (by repeat (first | (with_reducible exact HR269.out) | (with_reducible refine Kd.C_alloc ?_ _) | (with_reducible refine Kd.C_drewN ?_ _) | (with_reducible refine Kd.C_drew ?_) | exact HR269.out)) hb); have n4_ := Aside0.mk (below_step (by repeat (first | (with_reducible first | exact HB.out | apply below_alloc | apply pw_below_drewN | apply below_drew1) | exact HB.out)) hb); clear HO262; clear HO265; clear HR269; clear HB; have HO262 := n0_; have HO265 := n1_; have HO272 := n2_; have HR269 := n3_; have HB := n4_; clear n0_ n1_ n2_ n3_ n4_; (try clear hb); (try clear hb2); (try clear hk); (try clear hi); (try clear ho0)) | ((with_reducible refine gate_callee (f := 14) rfl ?_); refine goesL_ (some 23) rfl rfl Try.func14 (by kernel_rfl) rfl #[.slice A0 l0.length c0] rfl (by (try simp only [List.map_toArray, List.map_cons, List.map_nil]); first | done | rfl | (simp only [List.length_drop, List.length_take]; rfl)) ?_; (with_reducible refine (scriptoriumref04_Frame.calls k _ _ l0 t274 t275 _ ?side1 ?side2 A7.out).mono ?_); (case side1 => repeat (first | exact (Kd.C_below HR0.out HB.out) | (with_reducible refine Kd.C_alloc ?_ _) | (with_reducible refine Kd.C_drewN ?_ _) | (with_reducible refine Kd.C_drew ?_))); (case side2 => exact HC0.out); rintro e w17 ⟨v276, rfl, ho0, hb⟩; refine ⟨_, rfl, ?_⟩; have n0_ := Aside0.mk (Kd.R_elder' (by (with_reducible repeat (first | apply Kd.R_alloc | apply Kd.R_drewN | apply Kd.R_drew)); exact HO262.out) (Kd.R_base ho0) hb); have n1_ := Aside0.mk (Kd.R_elder' (by (with_reducible repeat (first | apply Kd.R_alloc | apply Kd.R_drewN | apply Kd.R_drew)); exact HO265.out) (Kd.R_base ho0) hb); have n2_ := Aside0.mk (Kd.R_elder' (by (with_reducible repeat (first | apply Kd.R_alloc | apply Kd.R_drewN | apply Kd.R_drew)); exact HO272.out) (Kd.R_base ho0) hb); have n3_ := Aside0.mk (Kd.R_lower (Kd.R_new' (Kd.R_new' (Kd.R_new' ho0 (Kd.R_lt (by (with_reducible repeat (first | apply Kd.R_alloc | apply Kd.R_drewN | apply Kd.R_drew)); exact HO262.out))) (Kd.R_lt (by (with_reducible repeat (first | apply Kd.R_alloc | apply Kd.R_drewN | apply Kd.R_drew)); exact HO265.out))) (Kd.R_lt (by (with_reducible repeat (first | apply Kd.R_alloc | apply Kd.R_drewN | apply Kd.R_drew)); exact HO272.out))) (below_size (by repeat (first | (with_reducible first | exact HB.out | apply below_alloc | apply pw_below_drewN | apply below_drew1) | exact HB.out)))); have n4_ := Aside0.mk (Kd.C_below (by repeat (first | (with_reducible exact HR269.out) | (with_reducible refine Kd.C_alloc ?_ _) | (with_reducible refine Kd.C_drewN ?_ _) | (with_reducible refine Kd.C_drew ?_) | exact HR269.out)) hb); have n5_ := Aside0.mk (below_step (by repeat (first | (with_reducible first | exact HB.out | apply below_alloc | apply pw_below_drewN | apply below_drew1) | exact HB.out)) hb); clear HO262; clear HO265; clear HO272; clear HR269; clear HB; have HO262 := n0_; have HO265 := n1_; have HO272 := n2_; have HO277 := n3_; have HR269 := n4_; have HB := n5_; clear n0_ n1_ n2_ n3_ n4_ n5_; (try clear hb); (try clear hb2); (try clear hk); (try clear hi); (try clear ho0)))
        (try simp only [Act.put, List.setIfInBounds_toArray, List.set_cons_zero, List.set_cons_succ])
        go_cut [43] (fun v43 wc => ∃ (kq : Nat) (x43_7 : Bool), v43 = .bool x43_7 ∧ Aside0 (scriptoriumlaw04_FrameMakes.j0 kq l0 y263 x43_7 = some r) ∧ Aside0 (kq ≤ k) ∧ Aside0 (Kd.R (Kd.int .u8) 5 wc w.heap.size (fun _ => True) (.slice Ao15 y263.length co15) y263) ∧ Aside0 (Kd.C (Kd.int .u8) wc Ao15 y266.length y266) ∧ Aside0 (Below w.heap.size w wc))
        case first =>
          have H := HC8.out
          clear HC8
          replace H := Option.bind_eq_some_iff.mp H
          obtain ⟨t278, A180, H⟩ := H
          replace H : (if t278 = true then (if t273 = t275 then ((scriptoriumref00_EqBytes.f k (y263.take ((l0.length : Int) : Int).toNat) l0).bind fun t283 => (scriptoriumlaw04_FrameMakes.j0 k l0 y263 (!t283))) else (scriptoriumlaw04_FrameMakes.j0 k l0 y263 true)) else (scriptoriumlaw04_FrameMakes.j0 k l0 y263 true)) = some r := H
          have A18 := Aside0.mk A180
          clear A180
          by_cases c19 : t278 = true
          · subst c19
            have H1 : (if t273 = t275 then ((scriptoriumref00_EqBytes.f k (y263.take ((l0.length : Int) : Int).toNat) l0).bind fun t283 => (scriptoriumlaw04_FrameMakes.j0 k l0 y263 (!t283))) else (scriptoriumlaw04_FrameMakes.j0 k l0 y263 true)) = some r := by rw [if_pos rfl] at H; exact H
            clear H
            have H := H1
            clear H1
            by_cases c20 : t273 = t275
            · rw [if_pos c20] at H
              have c20b0 : (t273 == t275) = true := beq_iff_eq.mpr c20
              have c20b1 : (t273 != t275) = false := bne_eq_false_iff_eq.mpr c20
              clear c20
              (first | rw [c20b0] | (simp only [i64_w, i32_w]; rw [c20b0]) | skip)
              have c21b0 := eq_true (of_decide_eq_true (by first | (with_reducible assumption) | assumption) : 0 ≤ (l0.length : Int))
              have c22b0 := eq_true (of_decide_eq_true (by first | (with_reducible assumption) | assumption) : (l0.length : Int) ≤ (y263.length : Int))
              obtain ⟨y279, hy279⟩ : ∃ y_ : List Int, y_ = (y263.take ((l0.length : Int) : Int).toNat) := ⟨_, rfl⟩
              replace H : ((scriptoriumref00_EqBytes.f k y279 l0).bind fun t283 => (scriptoriumlaw04_FrameMakes.j0 k l0 y263 (!t283))) = some r := by first | (rw [hy279]; with_reducible exact H) | (have H2_ := (Option.bind_some _ _).symm.trans H; rw [hy279]; with_reducible exact H2_) | (have H2_ := (Option.bind_some _ _).symm.trans H; with_reducible exact H2_) | with_reducible exact H | (rw [hy279]; exact H) | exact H
              have Ny279 := Aside0.mk hy279
              clear hy279
              replace H := Option.bind_eq_some_iff.mp H
              obtain ⟨t283, A230, H⟩ := H
              replace H : (scriptoriumlaw04_FrameMakes.j0 k l0 y263 (!t283)) = some r := H
              have A23 := Aside0.mk A230
              clear A230
              have H' := Aside0.mk H
              clear H
              obtain ⟨Ao24, co24, eo24⟩ := Kd.R_slice HO272.out
              subst eo24
              obtain ⟨Ao25, co25, eo25⟩ := Kd.R_slice HO277.out
              subst eo25
              go_wp2_with (first | ((with_reducible refine gate_callee (f := 15) rfl ?_); refine goesL_ (some 28) rfl rfl Try.func15 (by kernel_rfl) rfl #[.slice Ao24 t270.length co24, .slice Ao25 t274.length co25] rfl (by (try simp only [List.map_toArray, List.map_cons, List.map_nil]); first | done | rfl | (simp only [List.length_drop, List.length_take]; rfl)) ?_; (with_reducible refine (scriptoriumref00_EqBytes.calls k _ _ t270 _ _ t274 true _ ?side1 ?side2 ?side3 ?side4 A18.out).mono ?_); (case side1 => repeat (first | exact (Kd.R_reads' HO272.out).2.2 | (with_reducible refine Kd.C_alloc ?_ _) | (with_reducible refine Kd.C_drewN ?_ _) | (with_reducible refine Kd.C_drew ?_))); (case side2 => exact (Kd.R_reads' HO272.out).2.1); (case side3 => repeat (first | exact (Kd.R_reads' HO277.out).2.2 | (with_reducible refine Kd.C_alloc ?_ _) | (with_reducible refine Kd.C_drewN ?_ _) | (with_reducible refine Kd.C_drew ?_))); (case side4 => exact (Kd.R_reads' HO277.out).2.1); rintro e w' ⟨rfl, ⟨nd, rfl⟩⟩; refine ⟨_, rfl, ?_⟩; have q26 : ((l0.length : Int) : Int) ≤ ((y263.length : Int) : Int) := of_decide_eq_true (by first | (with_reducible assumption) | assumption); obtain ⟨i026, hi026, _, hsz26, _⟩ := info_parts info5; have hroom26 : y263.length ≤ co15 := (Kd.R_reads' HO265.out).2.1; have hC26 : Kd.C (Kd.int .u8) _ Ao15 y263.length y263 := (Kd.R_reads' HO265.out).2.2; (try clear hcut14); have hcut26 := cut_to (P := Try.prog) 22 5 .i64 Try.underlying22 hi026 Ao15 y263.length co15 (l0.length : Int) (of_decide_eq_true (by first | (with_reducible assumption) | assumption)) q26 hroom26; have hr26 := Kd.C_take (m := ((l0.length : Int) : Int).toNat) hC26 (by omega); have hy26 : y279.length = ((l0.length : Int) : Int).toNat := (by rw [Ny279.out, List.length_take]; omega); rw [← Ny279.out] at hr26; rw [← hy26] at hcut26; have HR282 := Aside0.mk hr26; have HC282 := Aside0.mk (show y279.length ≤ co15 from by omega); clear hr26 hC26 hroom26 hi026 hsz26; have KY26 := Aside0.mk hy26; clear hy26; have KL26 := Aside0.mk (show ((l0.length : Int) : Int).toNat ≤ y263.length from by omega); replace q26 := eq_true q26) | (go_at_call 15; (with_reducible refine (scriptoriumref00_EqBytes.calls k _ _ y279 _ _ l0 t283 _ ?side1 ?side2 ?side3 ?side4 A23.out).mono ?_); (case side1 => repeat (first | exact (by repeat (first | (with_reducible exact HR282.out) | (with_reducible refine Kd.C_alloc ?_ _) | (with_reducible refine Kd.C_drewN ?_ _) | (with_reducible refine Kd.C_drew ?_) | exact HR282.out)) | (with_reducible refine Kd.C_alloc ?_ _) | (with_reducible refine Kd.C_drewN ?_ _) | (with_reducible refine Kd.C_drew ?_))); (case side2 => exact HC282.out); (case side3 => repeat (first | exact (Kd.C_below HR0.out (by repeat (first | (with_reducible first | exact HB.out | apply below_alloc | apply pw_below_drewN | apply below_drew1) | exact HB.out))) | (with_reducible refine Kd.C_alloc ?_ _) | (with_reducible refine Kd.C_drewN ?_ _) | (with_reducible refine Kd.C_drew ?_))); (case side4 => exact HC0.out); rintro e w' ⟨rfl, ⟨nd, rfl⟩⟩))
              go_meet
              case rel => exact ⟨_, (!t283), (by first | rfl | (simp; done) | (simp [*]; done)), H', ⟨by first | omega | exact Nat.le_refl _⟩, ⟨by (with_reducible repeat (first | apply Kd.R_alloc | apply Kd.R_drewN | apply Kd.R_drew)); exact Kd.R_mono HO265.out (fun _ hk => trivial)⟩, ⟨by repeat (first | (with_reducible exact HR269.out) | (with_reducible refine Kd.C_alloc ?_ _) | (with_reducible refine Kd.C_drewN ?_ _) | (with_reducible refine Kd.C_drew ?_) | exact HR269.out)⟩, ⟨by repeat (first | (with_reducible first | exact HB.out | apply below_alloc | apply pw_below_drewN | apply below_drew1) | exact HB.out)⟩⟩
            · rw [if_neg c20] at H
              have c20b0 : (t273 == t275) = false := beq_eq_false_iff_ne.mpr c20
              have c20b1 : (t273 != t275) = true := bne_iff_ne.mpr c20
              (first | rw [c20b0] | (simp only [i64_w, i32_w]; rw [c20b0]) | skip)
              have H' := Aside0.mk H
              clear H
              obtain ⟨Ao27, co27, eo27⟩ := Kd.R_slice HO272.out
              subst eo27
              obtain ⟨Ao28, co28, eo28⟩ := Kd.R_slice HO277.out
              subst eo28
              go_wp2_with (first | ((with_reducible refine gate_callee (f := 15) rfl ?_); refine goesL_ (some 28) rfl rfl Try.func15 (by kernel_rfl) rfl #[.slice Ao27 t270.length co27, .slice Ao28 t274.length co28] rfl (by (try simp only [List.map_toArray, List.map_cons, List.map_nil]); first | done | rfl | (simp only [List.length_drop, List.length_take]; rfl)) ?_; (with_reducible refine (scriptoriumref00_EqBytes.calls k _ _ t270 _ _ t274 true _ ?side1 ?side2 ?side3 ?side4 A18.out).mono ?_); (case side1 => repeat (first | exact (Kd.R_reads' HO272.out).2.2 | (with_reducible refine Kd.C_alloc ?_ _) | (with_reducible refine Kd.C_drewN ?_ _) | (with_reducible refine Kd.C_drew ?_))); (case side2 => exact (Kd.R_reads' HO272.out).2.1); (case side3 => repeat (first | exact (Kd.R_reads' HO277.out).2.2 | (with_reducible refine Kd.C_alloc ?_ _) | (with_reducible refine Kd.C_drewN ?_ _) | (with_reducible refine Kd.C_drew ?_))); (case side4 => exact (Kd.R_reads' HO277.out).2.1); rintro e w' ⟨rfl, ⟨nd, rfl⟩⟩; refine ⟨_, rfl, ?_⟩))
              go_meet
              case rel => exact ⟨_, (true), (by first | rfl | (simp; done) | (simp [*]; done)), H', ⟨by first | omega | exact Nat.le_refl _⟩, ⟨by (with_reducible repeat (first | apply Kd.R_alloc | apply Kd.R_drewN | apply Kd.R_drew)); exact Kd.R_mono HO265.out (fun _ hk => trivial)⟩, ⟨by repeat (first | (with_reducible exact HR269.out) | (with_reducible refine Kd.C_alloc ?_ _) | (with_reducible refine Kd.C_drewN ?_ _) | (with_reducible refine Kd.C_drew ?_) | exact HR269.out)⟩, ⟨by repeat (first | (with_reducible first | exact HB.out | apply below_alloc | apply pw_below_drewN | apply below_drew1) | exact HB.out)⟩⟩
          · replace c19 := Bool.eq_false_iff.mpr c19
            subst c19
            have H1 : (scriptoriumlaw04_FrameMakes.j0 k l0 y263 true) = some r := by rw [if_neg (show ¬ (false = true) by decide)] at H; exact H
            clear H
            have H := H1
            clear H1
            have H' := Aside0.mk H
            clear H
            obtain ⟨Ao29, co29, eo29⟩ := Kd.R_slice HO272.out
            subst eo29
            obtain ⟨Ao30, co30, eo30⟩ := Kd.R_slice HO277.out
            subst eo30
            go_wp2_with (first | ((with_reducible refine gate_callee (f := 15) rfl ?_); refine goesL_ (some 28) rfl rfl Try.func15 (by kernel_rfl) rfl #[.slice Ao29 t270.length co29, .slice Ao30 t274.length co30] rfl (by (try simp only [List.map_toArray, List.map_cons, List.map_nil]); first | done | rfl | (simp only [List.length_drop, List.length_take]; rfl)) ?_; (with_reducible refine (scriptoriumref00_EqBytes.calls k _ _ t270 _ _ t274 false _ ?side1 ?side2 ?side3 ?side4 A18.out).mono ?_); (case side1 => repeat (first | exact (Kd.R_reads' HO272.out).2.2 | (with_reducible refine Kd.C_alloc ?_ _) | (with_reducible refine Kd.C_drewN ?_ _) | (with_reducible refine Kd.C_drew ?_))); (case side2 => exact (Kd.R_reads' HO272.out).2.1); (case side3 => repeat (first | exact (Kd.R_reads' HO277.out).2.2 | (with_reducible refine Kd.C_alloc ?_ _) | (with_reducible refine Kd.C_drewN ?_ _) | (with_reducible refine Kd.C_drew ?_))); (case side4 => exact (Kd.R_reads' HO277.out).2.1); rintro e w' ⟨rfl, ⟨nd, rfl⟩⟩; refine ⟨_, rfl, ?_⟩))
            go_meet
            case rel => exact ⟨_, (true), (by first | rfl | (simp; done) | (simp [*]; done)), H', ⟨by first | omega | exact Nat.le_refl _⟩, ⟨by (with_reducible repeat (first | apply Kd.R_alloc | apply Kd.R_drewN | apply Kd.R_drew)); exact Kd.R_mono HO265.out (fun _ hk => trivial)⟩, ⟨by repeat (first | (with_reducible exact HR269.out) | (with_reducible refine Kd.C_alloc ?_ _) | (with_reducible refine Kd.C_drewN ?_ _) | (with_reducible refine Kd.C_drew ?_) | exact HR269.out)⟩, ⟨by repeat (first | (with_reducible first | exact HB.out | apply below_alloc | apply pw_below_drewN | apply below_drew1) | exact HB.out)⟩⟩
        case rest =>
          clear HC8
          try clear c1
          try clear q1
          try clear c2
          try clear p2
          try clear q2
          try clear c3
          try clear c4
          try clear c4b0
          try clear c4b1
          try clear c5
          try clear c5b0
          try clear c5b1
          try clear c12
          try clear c13
          try clear c14
          try clear q14
          try clear c15
          try clear c19
          try clear c20
          try clear c20b0
          try clear c20b1
          try clear c21
          try clear c21b0
          try clear c22
          try clear c22b0
          try clear q26
          try clear q14
          try clear q26
          obtain ⟨kq, x43_7, rfl, HA, HJ7, HO_3, HR269, HB⟩ := hcut
          cases kq with
          | zero => exact absurd HA.out (by simp [scriptoriumlaw04_FrameMakes.j0])
          | succ kj7 =>
            have H := HA.out
            clear HA
            simp only [scriptoriumlaw04_FrameMakes.j0] at H
            by_cases c31 : x43_7 = true
            · subst c31
              have H1 : (some false) = some r := by rw [if_pos rfl] at H; exact H
              clear H
              have H := H1
              clear H1
              exact absurd (Option.some.inj (H.trans (congrArg some hrt))) (by decide)
            · replace c31 := Bool.eq_false_iff.mpr c31
              subst c31
              have H1 : (scriptoriumlaw04_FrameMakes.l0 kj7 y263 (l0.length : Int)) = some r := by rw [if_neg (show ¬ (false = true) by decide)] at H; exact H
              clear H
              have H := H1
              clear H1
              have H' := Aside0.mk H
              clear H
              go_wp2
              go_loopg [8] kj7 (fun kq v8 w' => ∃ (x8_2 : Int), v8 = .int .i64 x8_2 ∧ Aside0 (scriptoriumlaw04_FrameMakes.l0 kq y263 x8_2 = some r) ∧ Aside0 (kq ≤ kj7) ∧ Aside0 (Kd.R (Kd.int .u8) 5 w' w.heap.size (fun _ => True) (.slice Ao15 y263.length co15) y263) ∧ Aside0 (Below w.heap.size w w'))
              case atStart => exact ⟨((l0.length : Int)), (by first | rfl | (simp; done) | (simp [*]; done)), H', ⟨Nat.le_refl _⟩, ⟨by (with_reducible repeat (first | apply Kd.R_alloc | apply Kd.R_drewN | apply Kd.R_drew)); exact HO_3.out⟩, ⟨by repeat (first | (with_reducible first | exact HB.out | apply below_alloc | apply pw_below_drewN | apply below_drew1) | exact HB.out)⟩⟩
              case round =>
                clear H'
                try clear c1
                try clear q1
                try clear c2
                try clear p2
                try clear q2
                try clear c3
                try clear c4
                try clear c4b0
                try clear c4b1
                try clear c5
                try clear c5b0
                try clear c5b1
                try clear c12
                try clear c13
                try clear c14
                try clear q14
                try clear c15
                try clear c19
                try clear c20
                try clear c20b0
                try clear c20b1
                try clear c21
                try clear c21b0
                try clear c22
                try clear c22b0
                try clear q26
                try clear c31
                try clear p2
                try clear q1
                try clear q14
                try clear q2
                try clear q26
                obtain ⟨x8_2, rfl, HA, HK2, HO_3, HB⟩ := hrel
                cases gk with
                | zero => exact absurd HA.out (by simp [scriptoriumlaw04_FrameMakes.l0])
                | succ k2 =>
                  have H := HA.out
                  clear HA
                  simp only [scriptoriumlaw04_FrameMakes.l0] at H
                  by_cases c32 : x8_2 < (y263.length : Int)
                  · rw [if_pos c32] at H
                    have c32b0 : decide (x8_2 < (y263.length : Int)) = true := decide_eq_true c32
                    clear c32
                    by_cases c33 : 0 ≤ x8_2
                    · rw [if_pos c33] at H
                      have c33b0 : decide (0 ≤ x8_2) = true := decide_eq_true c33
                      clear c33
                      by_cases c34 : (rd y263 x8_2) = 7
                      · rw [if_pos c34] at H
                        have c34b0 : ((rd y263 x8_2) == 7) = true := beq_iff_eq.mpr c34
                        have c34b1 : ((rd y263 x8_2) != 7) = false := bne_eq_false_iff_eq.mpr c34
                        clear c34
                        have H' := Aside0.mk H
                        clear H
                        have p284 : 0 ≤ (x8_2 : Int) := of_decide_eq_true (by first | (with_reducible assumption) | assumption)
                        have q284 : x8_2 < (y263.length : Int) := of_decide_eq_true (by first | (with_reducible assumption) | assumption)
                        obtain ⟨ad284, e284, hx284_0⟩ := Kd.at_int (Kd.R_reads' HO_3.out).2.2 x8_2 p284 q284
                        cases e284
                        replace p284 := eq_true p284
                        replace q284 := eq_true q284
                        go_wp2
                        go_roundg k2
                        case measure => have := HJ7.out; have := HK2.out; omega
                        case rel => exact ⟨(wrap64 (x8_2 + 1)), (by first | rfl | (simp; done) | (simp [*]; done)), H', ⟨by have := HJ7.out; have := HK2.out; omega⟩, ⟨by (with_reducible repeat (first | apply Kd.R_alloc | apply Kd.R_drewN | apply Kd.R_drew)); exact HO_3.out⟩, ⟨by repeat (first | (with_reducible first | exact HB.out | apply below_alloc | apply pw_below_drewN | apply below_drew1) | exact HB.out)⟩⟩
                      · rw [if_neg c34] at H
                        have c34b0 : ((rd y263 x8_2) == 7) = false := beq_eq_false_iff_ne.mpr c34
                        have c34b1 : ((rd y263 x8_2) != 7) = true := bne_iff_ne.mpr c34
                        exact absurd (Option.some.inj (H.trans (congrArg some hrt))) (by decide)
                    · rw [if_neg c33] at H
                      exact absurd H (by simp)
                  · rw [if_neg c32] at H
                    have c32b0 : decide (x8_2 < (y263.length : Int)) = false := decide_eq_false c32
                    clear c32
                    replace H := Option.bind_eq_some_iff.mp H
                    obtain ⟨t285, A350, H⟩ := H
                    replace H : (some t285) = some r := H
                    have A35 := Aside0.mk A350
                    clear A350
                    obtain rfl := Option.some.inj H
                    go_wp2_with (first | ((with_reducible refine gate_callee (f := 16) rfl ?_); refine goesL_ (some 57) rfl rfl Try.func16 (by kernel_rfl) rfl #[] rfl (by (try simp only [List.map_toArray, List.map_cons, List.map_nil]); first | done | rfl | (simp only [List.length_drop, List.length_take]; rfl)) ?_; (with_reducible refine (scriptoriumlaw04_works.calls k2  t285 _ A35.out).mono ?_); rintro e w36 ⟨rfl, hb⟩; refine ⟨_, rfl, ?_⟩; have n0_ := Aside0.mk (Kd.R_below (by (with_reducible repeat (first | apply Kd.R_alloc | apply Kd.R_drewN | apply Kd.R_drew)); exact HO_3.out) hb); have n2_ := Aside0.mk (below_step (by repeat (first | (with_reducible first | exact HB.out | apply below_alloc | apply pw_below_drewN | apply below_drew1) | exact HB.out)) hb); clear HO_3; clear HB; have HO_3 := n0_; have HB := n2_; clear n0_ n2_; (try clear hb); (try clear hb2); (try clear hk); (try clear hi)))
                    go_ret
                    exact ⟨by first | rfl | (simp [errW_none, errW_some] <;> rfl) | (simp [*, errW_none, errW_some] <;> rfl), by repeat (first | (with_reducible first | exact HB.out | apply below_alloc | apply pw_below_drewN | apply below_drew1) | exact HB.out)⟩
      · rw [if_neg c5] at H
        exact absurd H (by simp)
    · rw [if_neg c4] at H
      exact absurd H (by simp)
  · rw [if_neg c3] at H
    exact absurd H (by simp)

/-- THE ONE PURE STATEMENT of scriptoriumlaw04_FrameMakes: yours. -/
def scriptoriumlaw04_FrameMakes.Pure : Prop := ∀ (l0 : List Int), l0.length ≤ maxLen → l0.length * 1 ≤ 140737488351232 → (∀ x ∈ l0, (Lit.int .u8 x).wf = true) → ∃ k, scriptoriumlaw04_FrameMakes.f k l0 = some true
theorem scriptoriumlaw04_FrameMakes.walk (P : scriptoriumlaw04_FrameMakes.Pure) (a0 : Option Addr) (len0 cap0 : Nat) (z0 : List Int) (w : World) (w0 : (a0 = none ∧ len0 = 0 ∧ cap0 = 0 ∧ z0 = []) ∨ ∃ x, a0 = some x ∧ len0 ≤ cap0 ∧ cap0 ≤ maxLen ∧ z0.length = cap0 ∧ (∀ i, i < z0.length → w.cell? (x.add i) = some (.int .u8 (z0.getD i 0))) ∧ ∀ n ∈ z0, (Lit.int .u8 n).wf = true) (y0 : len0 * 1 ≤ 140737488351232) :
    Calls Try.prog 3 #[.slice a0 len0 cap0] w fun e w' => e = .returned (.bool true) ∧ Below w.heap.size w w' := by
  obtain ⟨l0, rfl, hr0, hm0, hw0, hc0⟩ := ReadsInt.ofRowC w0
  obtain ⟨k, h⟩ := P l0 hm0 y0 hw0
  refine (scriptoriumlaw04_FrameMakes.calls k _ _ l0 true w (Kd.C_of_reads (d := (0 : Int)) (h1 := fun _ => rfl) hr0) hc0 h rfl).mono ?_
  rintro e w' ⟨rfl, hd⟩
  exact ⟨rfl, hd⟩

end Go.Proofs.Ytkboplflbokofaa.PFrameMakes
