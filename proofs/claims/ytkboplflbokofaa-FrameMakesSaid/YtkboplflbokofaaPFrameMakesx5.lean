/- Written by xprint.py, a program of these sessions (over the print of the kit, with leaves typed by hand): one Lean function for each Go function, and the proof that the Go code comes to its answers. -/
import Derived.Test.YtkboplflbokofaaPFrameMakesx0
import Derived.Test.YtkboplflbokofaaPFrameMakesx1
import Derived.Test.YtkboplflbokofaaPFrameMakesx2
import Derived.Test.YtkboplflbokofaaPFrameMakesx3
import Derived.Test.YtkboplflbokofaaPFrameMakesx4
namespace Go.Proofs.Ytkboplflbokofaa.PFrameMakes
open Go.RowKit Go.Proofs.YtkboplflbokofaaW.PrintWords Go.Proofs.YtkboplflbokofaaW.PrintLast Go.Proofs.YtkboplflbokofaaW.PrintMore
attribute [local go_sem] max2_int min2_int max_two min_two max_three min_three max_four min_four   -- for this text's walks alone
set_option linter.unusedVariables false
set_option linter.unusedSimpArgs false

/-! ### scriptoriumlaw04_works: function 16 -/
def scriptoriumlaw04_works_in.j0 : Nat → List Int → Bool → Option (Bool)
  | 0, _, _ => none
  | k + 1, x1, x34 => if x34 = true then (some false) else (if 3 ≤ (x1.length : Int) then ((crc_Of.f (x1.take 3)).bind fun t213 => ((scriptoriumref00_CopyBytes.f x1).bind fun t214 => (if t214.length < 140737488355328 then ((frame_Next.f k (t214 ++ [9])).bind fun bt220 => (if 6 ≤ (x1.length : Int) then ((frame_Next.f k (x1.take 6)).bind fun bt229 => ((frame_Next.f k (([8] : List Int))).bind fun bt237 => (if 6 < (x1.length : Int) then ((some (x1.set (6 : Int).toNat (Go.bits .xor .u8 (rd x1 6) 1) : List Int)).bind fun y243 => ((frame_Next.f k y243).bind fun bt244 => (if 3 < (x1.length : Int) then (if 4 < (x1.length : Int) then (if 5 < (x1.length : Int) then (if (Go.bits .or .u32 (Go.bits .or .u32 (Go.bits .or .u32 ((((rd y243 3) % 4294967296) * 16777216) % 4294967296) ((((rd y243 4) % 4294967296) * 65536) % 4294967296)) ((((rd y243 5) % 4294967296) * 256) % 4294967296)) ((Go.bits .xor .u8 (rd y243 6) 1) % 4294967296)) = t213 then (if bt220.2.2 = 0 then ((scriptoriumref00_EqBytes.f k bt220.1 (([97] : List Int))).bind fun t256 => (if t256 = true then (if bt220.2.1 = 7 then (if bt229.2.2 = 3 then (if bt237.2.2 = 4 then (some (bt244.2.2 == 40)) else (some false)) else (some false)) else (some false)) else (some false))) else (some false)) else (some false)) else (none)) else (none)) else (none)))) else (none)))) else (none))) else (none)))) else (none))
def scriptoriumlaw04_works_in.f (k : Nat)  : Option (Bool) := (frame_Frame.f k (([97] : List Int))).bind fun bt197 => (if bt197.2 = 0 then (if (bt197.1.length : Int) = 7 then (if 3 ≤ (bt197.1.length : Int) then ((scriptoriumref00_EqBytes.f k (bt197.1.take 3) (([1, 1, 97] : List Int))).bind fun t208 => (scriptoriumlaw04_works_in.j0 k bt197.1 (!t208))) else (none)) else (scriptoriumlaw04_works_in.j0 k bt197.1 true)) else (scriptoriumlaw04_works_in.j0 k bt197.1 true))
theorem scriptoriumlaw04_works_in.mono_l : ∀ k, (∀ y0 y1, LeO (scriptoriumlaw04_works_in.j0 k y0 y1) (scriptoriumlaw04_works_in.j0 (k + 1) y0 y1))
  | 0 => fun _ _ r h => by simp [scriptoriumlaw04_works_in.j0] at h
  | k + 1 => by
    have ih0 := scriptoriumlaw04_works_in.mono_l k
    · intro y0 y1
      unfold scriptoriumlaw04_works_in.j0
      repeat' first
      | (with_reducible exact ih0 _ _)
      | (with_reducible exact frame_Frame.mono _ _)
      | (with_reducible exact frame_Next.mono _ _)
      | (with_reducible exact scriptoriumref00_EqBytes.mono _ _ _)
      | (with_reducible exact LeO.refl _)
      | (with_reducible exact LeO.none _)
      | (with_reducible refine LeO.ite ?_ ?_)
      | (with_reducible refine LeO.bind ?_ (fun _ => ?_))
      | exact ih0 _ _
      | exact frame_Frame.mono _ _
      | exact frame_Next.mono _ _
      | exact scriptoriumref00_EqBytes.mono _ _ _
      | exact LeO.none _
      | refine LeO.ite ?_ ?_
      | refine LeO.bind ?_ (fun _ => ?_)
theorem scriptoriumlaw04_works_in.mono : ∀ k, LeO (scriptoriumlaw04_works_in.f k ) (scriptoriumlaw04_works_in.f (k + 1) ) := by
  intro  k
  have ih0 := scriptoriumlaw04_works_in.mono_l k
  unfold scriptoriumlaw04_works_in.f
  repeat' first
      | (with_reducible exact ih0 _ _)
      | (with_reducible exact frame_Frame.mono _ _)
      | (with_reducible exact frame_Next.mono _ _)
      | (with_reducible exact scriptoriumref00_EqBytes.mono _ _ _)
      | (with_reducible exact LeO.refl _)
      | (with_reducible exact LeO.none _)
      | (with_reducible refine LeO.ite ?_ ?_)
      | (with_reducible refine LeO.bind ?_ (fun _ => ?_))
      | exact ih0 _ _
      | exact frame_Frame.mono _ _
      | exact frame_Next.mono _ _
      | exact scriptoriumref00_EqBytes.mono _ _ _
      | exact LeO.none _
      | refine LeO.ite ?_ ?_
      | refine LeO.bind ?_ (fun _ => ?_)
def scriptoriumlaw04_works_in.T10 : Bool × List (List Nat × List Nat) := (true, [([], []), ([0], [0]), ([1], [1]), ([2], [2]), ([3], [3]), ([], []), ([5], [5]), ([6], [6]), ([7], [7]), ([8], [8]), ([4, 9], [4, 9]), ([], []), ([11], [11]), ([12], [12]), ([13], [13]), ([14], [14]), ([10, 15], [10, 15]), ([], []), ([17], [17]), ([18], [18]), ([19], [19]), ([20], [20]), ([16, 21], [16, 21]), ([], []), ([22, 23], [22, 23]), ([24], [24]), ([25], [25]), ([26, 25], [25, 26]), ([25, 27], [25, 27]), ([28, 25], [28]), ([29], [29]), ([29], [29]), ([30, 31, 29, 29], [29, 30, 31]), ([29, 32], [29, 32]), ([33, 32], [33]), ([34], [34]), ([35, 34], [34, 35]), ([34, 36], [34, 36]), ([37, 34], [37]), ([38], [38]), ([39, 38], [38, 39]), ([38, 40], [38, 40]), ([41, 38], [41]), ([42], [42]), ([43, 42], [42, 43]), ([42, 44], [42, 44]), ([45, 42], [45]), ([46], [46]), ([47, 46], [46, 47]), ([46, 48], [46, 48]), ([49, 46, 0, 1, 2, 3, 4, 5, 6, 7, 8, 9, 10, 11, 12, 13, 14, 15, 16, 17, 18, 19, 20, 21, 22, 23, 24, 25, 26, 27, 28, 29, 30, 31, 32, 33, 34, 35, 36, 37, 38, 39, 40, 41, 42, 43, 44, 45, 46, 47, 48, 49], [49])])
def scriptoriumlaw04_works_in.B10 : List Nat := [0, 1, 3, 7, 15, 0, 32, 96, 224, 480, 1023, 0, 2048, 6144, 14336, 30720, 65535, 0, 131072, 393216, 917504, 1966080, 4194303, 0, 16777215, 33554431, 67108863, 134217727, 268435455, 536870911, 1073741823, 1073741823, 4294967295, 8589934591, 17179869183, 34359738367, 68719476735, 137438953471, 274877906943, 549755813887, 1099511627775, 2199023255551, 4398046511103, 8796093022207, 17592186044415, 35184372088831, 70368744177663, 140737488355327, 281474976710655, 562949953421311, 1125899906842623]
theorem scriptoriumlaw04_works_in.tab10 : rtab .any (opsOf Try.f16 10) = scriptoriumlaw04_works_in.T10 := by kernel_rfl
theorem scriptoriumlaw04_works_in.bits10 : waitsOk scriptoriumlaw04_works_in.T10.2 scriptoriumlaw04_works_in.B10 = true := by kernel_rfl
set_option maxHeartbeats 8000000 in
set_option maxRecDepth 100000 in
theorem scriptoriumlaw04_works_in.calls (k : Nat)  (r : Bool) (w : World) (h : scriptoriumlaw04_works_in.f k  = some r) (hrt : r = true) :
    Calls Try.prog 16 #[] w fun e w' => e = .returned (.bool r) ∧ Below w.heap.size w w' := by
  have HB := Aside0.mk (Below.refl w.heap.size w)
  have H : ((frame_Frame.f k (([97] : List Int))).bind fun bt197 => (if bt197.2 = 0 then (if (bt197.1.length : Int) = 7 then (if 3 ≤ (bt197.1.length : Int) then ((scriptoriumref00_EqBytes.f k (bt197.1.take 3) (([1, 1, 97] : List Int))).bind fun t208 => (scriptoriumlaw04_works_in.j0 k bt197.1 (!t208))) else (none)) else (scriptoriumlaw04_works_in.j0 k bt197.1 true)) else (scriptoriumlaw04_works_in.j0 k bt197.1 true))) = some r := h
  clear h
  obtain ⟨y194, hy194⟩ : ∃ y_ : List Int, y_ = (([97] : List Int)) := ⟨_, rfl⟩
  replace H : ((frame_Frame.f k y194).bind fun bt197 => (if bt197.2 = 0 then (if (bt197.1.length : Int) = 7 then (if 3 ≤ (bt197.1.length : Int) then ((scriptoriumref00_EqBytes.f k (bt197.1.take 3) (([1, 1, 97] : List Int))).bind fun t208 => (scriptoriumlaw04_works_in.j0 k bt197.1 (!t208))) else (none)) else (scriptoriumlaw04_works_in.j0 k bt197.1 true)) else (scriptoriumlaw04_works_in.j0 k bt197.1 true))) = some r := by first | (rw [hy194]; with_reducible exact H) | (have H2_ := (Option.bind_some _ _).symm.trans H; rw [hy194]; with_reducible exact H2_) | (have H2_ := (Option.bind_some _ _).symm.trans H; with_reducible exact H2_) | with_reducible exact H | (rw [hy194]; exact H) | exact H
  have Ny194 := Aside0.mk hy194
  clear hy194
  replace H := Option.bind_eq_some_iff.mp H
  obtain ⟨⟨t197, t200⟩, A10, H⟩ := H
  replace H : (if t200 = 0 then (if (t197.length : Int) = 7 then (if 3 ≤ (t197.length : Int) then ((scriptoriumref00_EqBytes.f k (t197.take 3) (([1, 1, 97] : List Int))).bind fun t208 => (scriptoriumlaw04_works_in.j0 k t197 (!t208))) else (none)) else (scriptoriumlaw04_works_in.j0 k t197 true)) else (scriptoriumlaw04_works_in.j0 k t197 true)) = some r := H
  have A1 := Aside0.mk A10
  clear A10
  have HC2 := Aside0.mk H
  clear H
  go_enter Try.func16, Try.ntmps16
  go_upto_region 2 with (first | ((with_reducible refine gate_dst (N := 17) rfl ?_); (try (refine gate_guard (by rfl) ?_; dsimp only)); refine Kd.R_lit (Kd.int .u8) _ 5 ?hg (N := 17) ?hd (xs := ([97] : List Int)) (inner := [.int .u8 97]) (ok := fun _ => True) (okp := fun _ => True) ?hr ?hp (fun _ hk => hk) trivial (Below.refl _ _) (Nat.le_refl _) (by simp) ?_; (case hd => rfl); (case hg => rfl); (case hr => first | (go_simp; done) | (go_simp; rfl)); (case hp => exact (Reps.one (show Kd.M (Kd.int .u8) _ _ _ 97 [.int .u8 97] from rfl) (Reps.none _ _))); intro v195 w3 ho4 hb hg_ hnew_; clear hg_ hnew_; (first | rw [← Ny194.out] at ho4 | (simp only [Int.reduceToNat] at ho4; rw [← Ny194.out] at ho4)); have n0_ := Aside0.mk (Kd.R_lower ho4 (below_size (by repeat (first | (with_reducible first | exact HB.out | apply below_alloc | apply pw_below_drewN | apply below_drew1) | exact HB.out)))); have n1_ := Aside0.mk (below_step (by repeat (first | (with_reducible first | exact HB.out | apply below_alloc | apply pw_below_drewN | apply below_drew1) | exact HB.out)) hb); clear HB; have HO196 := n0_; have HB := n1_; clear n0_ n1_; clear hb ho4; obtain ⟨Ao5, co5, eo5⟩ := Kd.R_slice HO196.out; subst eo5) | ((with_reducible refine gate_callee (f := 13) rfl ?_); refine goesL_ (some 18) rfl rfl Try.func13 (by kernel_rfl) rfl #[.slice Ao5 y194.length co5] rfl (by (try simp only [List.map_toArray, List.map_cons, List.map_nil]); first | done | rfl | (simp only [List.length_drop, List.length_take]; rfl)) ?_; (with_reducible refine (frame_Frame.calls k (fun k_ => some k_ = (.slice Ao5 y194.length co5 : Value).ownBlock) _ _ y194 t197 t200 _ ?side1 A1.out).mono ?_); (case side1 => exact Kd.R_V (Kd.R_tight rfl (HO196.out))); rintro e w6 ⟨v198, rfl, ho0, hb⟩; refine ⟨_, rfl, ?_⟩; have n0_ := Aside0.mk (Kd.R_elder' (by (with_reducible repeat (first | apply Kd.R_alloc | apply Kd.R_drewN | apply Kd.R_drew)); exact HO196.out) (Kd.R_base ho0) hb); have n1_ := Aside0.mk (Kd.R_lower (Kd.R_new' (Kd.R_mono (ok' := fun k_ => True) ho0 (fun _ hk_ => trivial)) (Kd.R_lt (by (with_reducible repeat (first | apply Kd.R_alloc | apply Kd.R_drewN | apply Kd.R_drew)); exact HO196.out))) (below_size (by repeat (first | (with_reducible first | exact HB.out | apply below_alloc | apply pw_below_drewN | apply below_drew1) | exact HB.out)))); have n2_ := Aside0.mk (below_step (by repeat (first | (with_reducible first | exact HB.out | apply below_alloc | apply pw_below_drewN | apply below_drew1) | exact HB.out)) hb); clear HO196; clear HB; have HO196 := n0_; have HO199 := n1_; have HB := n2_; clear n0_ n1_ n2_; (try clear hb); (try clear hb2); (try clear hk); (try clear hi); (try clear ho0)))
  (try simp only [Act.put, List.setIfInBounds_toArray, List.set_cons_zero, List.set_cons_succ])
  go_cut [34] (fun v34 wc => ∃ (kq : Nat) (x34_1 : Bool), v34 = .bool x34_1 ∧ Aside0 (scriptoriumlaw04_works_in.j0 kq t197 x34_1 = some r) ∧ Aside0 (kq ≤ k) ∧ Aside0 (Kd.R (Kd.int .u8) 5 wc w.heap.size (fun _ => True) v198 t197) ∧ Aside0 (Below w.heap.size w wc))
  case first =>
    have H := HC2.out
    clear HC2
    by_cases c7 : t200 = 0
    · rw [if_pos c7] at H
      have c7b0 : (t200 == 0) = true := beq_iff_eq.mpr c7
      have c7b1 : (t200 != 0) = false := bne_eq_false_iff_eq.mpr c7
      clear c7
      (first | rw [c7b0] | (simp only [i64_w, i32_w]; rw [c7b0]) | skip)
      by_cases c8 : (t197.length : Int) = 7
      · rw [if_pos c8] at H
        have c8b0 : ((t197.length : Int) == 7) = true := beq_iff_eq.mpr c8
        have c8b1 : ((t197.length : Int) != 7) = false := bne_eq_false_iff_eq.mpr c8
        clear c8
        by_cases c9 : 3 ≤ (t197.length : Int)
        · rw [if_pos c9] at H
          have c9b0 := eq_true c9
          have c9b1 : decide (3 ≤ (t197.length : Int)) = true := decide_eq_true c9
          clear c9
          obtain ⟨y201, hy201⟩ : ∃ y_ : List Int, y_ = (t197.take 3) := ⟨_, rfl⟩
          replace H : ((scriptoriumref00_EqBytes.f k y201 (([1, 1, 97] : List Int))).bind fun t208 => (scriptoriumlaw04_works_in.j0 k t197 (!t208))) = some r := by first | (rw [hy201]; with_reducible exact H) | (have H2_ := (Option.bind_some _ _).symm.trans H; rw [hy201]; with_reducible exact H2_) | (have H2_ := (Option.bind_some _ _).symm.trans H; with_reducible exact H2_) | with_reducible exact H | (rw [hy201]; exact H) | exact H
          have Ny201 := Aside0.mk hy201
          clear hy201
          obtain ⟨y205, hy205⟩ : ∃ y_ : List Int, y_ = (([1, 1, 97] : List Int)) := ⟨_, rfl⟩
          replace H : ((scriptoriumref00_EqBytes.f k y201 y205).bind fun t208 => (scriptoriumlaw04_works_in.j0 k t197 (!t208))) = some r := by first | (rw [hy205]; with_reducible exact H) | (have H2_ := (Option.bind_some _ _).symm.trans H; rw [hy205]; with_reducible exact H2_) | (have H2_ := (Option.bind_some _ _).symm.trans H; with_reducible exact H2_) | with_reducible exact H | (rw [hy205]; exact H) | exact H
          have Ny205 := Aside0.mk hy205
          clear hy205
          replace H := Option.bind_eq_some_iff.mp H
          obtain ⟨t208, A100, H⟩ := H
          replace H : (scriptoriumlaw04_works_in.j0 k t197 (!t208)) = some r := H
          have A10 := Aside0.mk A100
          clear A100
          have H' := Aside0.mk H
          clear H
          obtain ⟨Ao11, co11, eo11⟩ := Kd.R_slice HO199.out
          subst eo11
          have q12 : (3 : Int) ≤ ((t197.length : Int) : Int) := of_decide_eq_true (by first | (with_reducible assumption) | assumption)
          obtain ⟨i012, hi012, _, hsz12, _⟩ := info_parts info5
          have hroom12 : t197.length ≤ co11 := (Kd.R_reads' HO199.out).2.1
          have hC12 : Kd.C (Kd.int .u8) _ Ao11 t197.length t197 := (Kd.R_reads' HO199.out).2.2
          have hcut12 := cut_to (P := Try.prog) 22 5 .i64 Try.underlying22 hi012 Ao11 t197.length co11 3 (by omega) q12 hroom12
          have hr12 := Kd.C_take (m := 3) hC12 (by omega)
          have hy12 : y201.length = (3 : Int).toNat := (by rw [Ny201.out, List.length_take]; omega)
          rw [← Ny201.out] at hr12
          rw [← hy12] at hcut12
          have HR204 := Aside0.mk hr12
          have HC204 := Aside0.mk (show y201.length ≤ co11 from by omega)
          clear hr12 hC12 hroom12 hi012 hsz12
          have KY12 := Aside0.mk hy12
          clear hy12
          have KL12 := Aside0.mk (show 3 ≤ t197.length from by omega)
          replace q12 := eq_true q12
          go_wp2_with (first | ((with_reducible refine gate_dst (N := 31) rfl ?_); (try (refine gate_guard (by rfl) ?_; dsimp only)); refine Kd.R_lit (Kd.int .u8) _ 5 ?hg (N := 31) ?hd (xs := ([1, 1, 97] : List Int)) (inner := [.int .u8 1, .int .u8 1, .int .u8 97]) (ok := fun _ => True) (okp := fun _ => True) ?hr ?hp (fun _ hk => hk) trivial (Below.refl _ _) (Nat.le_refl _) (by simp) ?_; (case hd => rfl); (case hg => rfl); (case hr => first | (go_simp; done) | (go_simp; rfl)); (case hp => exact (Reps.one (show Kd.M (Kd.int .u8) _ _ _ 1 [.int .u8 1] from rfl) (Reps.one (show Kd.M (Kd.int .u8) _ _ _ 1 [.int .u8 1] from rfl) (Reps.one (show Kd.M (Kd.int .u8) _ _ _ 97 [.int .u8 97] from rfl) (Reps.none _ _))))); intro v206 w13 ho14 hb hg_ hnew_; clear hg_ hnew_; (first | rw [← Ny205.out] at ho14 | (simp only [Int.reduceToNat] at ho14; rw [← Ny205.out] at ho14)); have n0_ := Aside0.mk (Kd.R_elder' (by (with_reducible repeat (first | apply Kd.R_alloc | apply Kd.R_drewN | apply Kd.R_drew)); exact HO196.out) (Kd.R_base ho14) hb); have n1_ := Aside0.mk (Kd.R_elder' (by (with_reducible repeat (first | apply Kd.R_alloc | apply Kd.R_drewN | apply Kd.R_drew)); exact HO199.out) (Kd.R_base ho14) hb); have n2_ := Aside0.mk (Kd.R_lower (Kd.R_new' (Kd.R_new' ho14 (Kd.R_lt (by (with_reducible repeat (first | apply Kd.R_alloc | apply Kd.R_drewN | apply Kd.R_drew)); exact HO196.out))) (Kd.R_lt (by (with_reducible repeat (first | apply Kd.R_alloc | apply Kd.R_drewN | apply Kd.R_drew)); exact HO199.out))) (below_size (by repeat (first | (with_reducible first | exact HB.out | apply below_alloc | apply pw_below_drewN | apply below_drew1) | exact HB.out)))); have n3_ := Aside0.mk (Kd.C_below (by repeat (first | (with_reducible exact HR204.out) | (with_reducible refine Kd.C_alloc ?_ _) | (with_reducible refine Kd.C_drewN ?_ _) | (with_reducible refine Kd.C_drew ?_) | exact HR204.out)) hb); have n4_ := Aside0.mk (below_step (by repeat (first | (with_reducible first | exact HB.out | apply below_alloc | apply pw_below_drewN | apply below_drew1) | exact HB.out)) hb); clear HO196; clear HO199; clear HR204; clear HB; have HO196 := n0_; have HO199 := n1_; have HO207 := n2_; have HR204 := n3_; have HB := n4_; clear n0_ n1_ n2_ n3_ n4_; clear hb ho14; obtain ⟨Ao15, co15, eo15⟩ := Kd.R_slice HO207.out; subst eo15) | (go_at_call 15; (with_reducible refine (scriptoriumref00_EqBytes.calls k _ _ y201 _ _ y205 t208 _ ?side1 ?side2 ?side3 ?side4 A10.out).mono ?_); (case side1 => repeat (first | exact (by repeat (first | (with_reducible exact HR204.out) | (with_reducible refine Kd.C_alloc ?_ _) | (with_reducible refine Kd.C_drewN ?_ _) | (with_reducible refine Kd.C_drew ?_) | exact HR204.out)) | (with_reducible refine Kd.C_alloc ?_ _) | (with_reducible refine Kd.C_drewN ?_ _) | (with_reducible refine Kd.C_drew ?_))); (case side2 => exact HC204.out); (case side3 => repeat (first | exact (Kd.R_reads' HO207.out).2.2 | (with_reducible refine Kd.C_alloc ?_ _) | (with_reducible refine Kd.C_drewN ?_ _) | (with_reducible refine Kd.C_drew ?_))); (case side4 => exact (Kd.R_reads' HO207.out).2.1); rintro e w' ⟨rfl, ⟨nd, rfl⟩⟩))
          go_meet
          case rel => exact ⟨_, (!t208), (by first | rfl | (simp; done) | (simp [*]; done)), H', ⟨by first | omega | exact Nat.le_refl _⟩, ⟨by (with_reducible repeat (first | apply Kd.R_alloc | apply Kd.R_drewN | apply Kd.R_drew)); exact Kd.R_mono HO199.out (fun _ hk => trivial)⟩, ⟨by repeat (first | (with_reducible first | exact HB.out | apply below_alloc | apply pw_below_drewN | apply below_drew1) | exact HB.out)⟩⟩
        · rw [if_neg c9] at H
          exact absurd H (by simp)
      · rw [if_neg c8] at H
        have c8b0 : ((t197.length : Int) == 7) = false := beq_eq_false_iff_ne.mpr c8
        have c8b1 : ((t197.length : Int) != 7) = true := bne_iff_ne.mpr c8
        have H' := Aside0.mk H
        clear H
        obtain ⟨Ao16, co16, eo16⟩ := Kd.R_slice HO199.out
        subst eo16
        go_wp2
        go_meet
        case rel => exact ⟨_, (true), (by first | rfl | (simp; done) | (simp [*]; done)), H', ⟨by first | omega | exact Nat.le_refl _⟩, ⟨by (with_reducible repeat (first | apply Kd.R_alloc | apply Kd.R_drewN | apply Kd.R_drew)); exact Kd.R_mono HO199.out (fun _ hk => trivial)⟩, ⟨by repeat (first | (with_reducible first | exact HB.out | apply below_alloc | apply pw_below_drewN | apply below_drew1) | exact HB.out)⟩⟩
    · rw [if_neg c7] at H
      have c7b0 : (t200 == 0) = false := beq_eq_false_iff_ne.mpr c7
      have c7b1 : (t200 != 0) = true := bne_iff_ne.mpr c7
      (first | rw [c7b0] | (simp only [i64_w, i32_w]; rw [c7b0]) | skip)
      have H' := Aside0.mk H
      clear H
      go_wp2
      go_meet
      case rel => exact ⟨_, (true), (by first | rfl | (simp; done) | (simp [*]; done)), H', ⟨by first | omega | exact Nat.le_refl _⟩, ⟨by (with_reducible repeat (first | apply Kd.R_alloc | apply Kd.R_drewN | apply Kd.R_drew)); exact Kd.R_mono HO199.out (fun _ hk => trivial)⟩, ⟨by repeat (first | (with_reducible first | exact HB.out | apply below_alloc | apply pw_below_drewN | apply below_drew1) | exact HB.out)⟩⟩
  case rest =>
    clear HC2
    try clear c1
    try clear q1
    try clear p2
    try clear c7
    try clear c7b0
    try clear c7b1
    try clear c8
    try clear c8b0
    try clear c8b1
    try clear c9
    try clear c9b0
    try clear c9b1
    try clear q12
    try clear c13
    try clear c16
    try clear q12
    obtain ⟨kq, x34_1, rfl, HA, HJ1, HO_1, HB⟩ := hcut
    cases kq with
    | zero => exact absurd HA.out (by simp [scriptoriumlaw04_works_in.j0])
    | succ kj1 =>
      have H := HA.out
      clear HA
      simp only [scriptoriumlaw04_works_in.j0] at H
      by_cases c17 : x34_1 = true
      · subst c17
        have H1 : (some false) = some r := by rw [if_pos rfl] at H; exact H
        clear H
        have H := H1
        clear H1
        exact absurd (Option.some.inj (H.trans (congrArg some hrt))) (by decide)
      · replace c17 := Bool.eq_false_iff.mpr c17
        subst c17
        have H1 : (if 3 ≤ (t197.length : Int) then ((crc_Of.f (t197.take 3)).bind fun t213 => ((scriptoriumref00_CopyBytes.f t197).bind fun t214 => (if t214.length < 140737488355328 then ((frame_Next.f kj1 (t214 ++ [9])).bind fun bt220 => (if 6 ≤ (t197.length : Int) then ((frame_Next.f kj1 (t197.take 6)).bind fun bt229 => ((frame_Next.f kj1 (([8] : List Int))).bind fun bt237 => (if 6 < (t197.length : Int) then ((some (t197.set (6 : Int).toNat (Go.bits .xor .u8 (rd t197 6) 1) : List Int)).bind fun y243 => ((frame_Next.f kj1 y243).bind fun bt244 => (if 3 < (t197.length : Int) then (if 4 < (t197.length : Int) then (if 5 < (t197.length : Int) then (if (Go.bits .or .u32 (Go.bits .or .u32 (Go.bits .or .u32 ((((rd y243 3) % 4294967296) * 16777216) % 4294967296) ((((rd y243 4) % 4294967296) * 65536) % 4294967296)) ((((rd y243 5) % 4294967296) * 256) % 4294967296)) ((Go.bits .xor .u8 (rd y243 6) 1) % 4294967296)) = t213 then (if bt220.2.2 = 0 then ((scriptoriumref00_EqBytes.f kj1 bt220.1 (([97] : List Int))).bind fun t256 => (if t256 = true then (if bt220.2.1 = 7 then (if bt229.2.2 = 3 then (if bt237.2.2 = 4 then (some (bt244.2.2 == 40)) else (some false)) else (some false)) else (some false)) else (some false))) else (some false)) else (some false)) else (none)) else (none)) else (none)))) else (none)))) else (none))) else (none)))) else (none)) = some r := by rw [if_neg (show ¬ (false = true) by decide)] at H; exact H
        clear H
        have H := H1
        clear H1
        by_cases c18 : 3 ≤ (t197.length : Int)
        · rw [if_pos c18] at H
          have c18b0 := eq_true c18
          have c18b1 : decide (3 ≤ (t197.length : Int)) = true := decide_eq_true c18
          clear c18
          obtain ⟨y209, hy209⟩ : ∃ y_ : List Int, y_ = (t197.take 3) := ⟨_, rfl⟩
          replace H : ((crc_Of.f y209).bind fun t213 => ((scriptoriumref00_CopyBytes.f t197).bind fun t214 => (if t214.length < 140737488355328 then ((frame_Next.f kj1 (t214 ++ [9])).bind fun bt220 => (if 6 ≤ (t197.length : Int) then ((frame_Next.f kj1 (t197.take 6)).bind fun bt229 => ((frame_Next.f kj1 (([8] : List Int))).bind fun bt237 => (if 6 < (t197.length : Int) then ((some (t197.set (6 : Int).toNat (Go.bits .xor .u8 (rd t197 6) 1) : List Int)).bind fun y243 => ((frame_Next.f kj1 y243).bind fun bt244 => (if 3 < (t197.length : Int) then (if 4 < (t197.length : Int) then (if 5 < (t197.length : Int) then (if (Go.bits .or .u32 (Go.bits .or .u32 (Go.bits .or .u32 ((((rd y243 3) % 4294967296) * 16777216) % 4294967296) ((((rd y243 4) % 4294967296) * 65536) % 4294967296)) ((((rd y243 5) % 4294967296) * 256) % 4294967296)) ((Go.bits .xor .u8 (rd y243 6) 1) % 4294967296)) = t213 then (if bt220.2.2 = 0 then ((scriptoriumref00_EqBytes.f kj1 bt220.1 (([97] : List Int))).bind fun t256 => (if t256 = true then (if bt220.2.1 = 7 then (if bt229.2.2 = 3 then (if bt237.2.2 = 4 then (some (bt244.2.2 == 40)) else (some false)) else (some false)) else (some false)) else (some false))) else (some false)) else (some false)) else (none)) else (none)) else (none)))) else (none)))) else (none))) else (none)))) = some r := by first | (rw [hy209]; with_reducible exact H) | (have H2_ := (Option.bind_some _ _).symm.trans H; rw [hy209]; with_reducible exact H2_) | (have H2_ := (Option.bind_some _ _).symm.trans H; with_reducible exact H2_) | with_reducible exact H | (rw [hy209]; exact H) | exact H
          have Ny209 := Aside0.mk hy209
          clear hy209
          replace H := Option.bind_eq_some_iff.mp H
          obtain ⟨t213, A190, H⟩ := H
          replace H : ((scriptoriumref00_CopyBytes.f t197).bind fun t214 => (if t214.length < 140737488355328 then ((frame_Next.f kj1 (t214 ++ [9])).bind fun bt220 => (if 6 ≤ (t197.length : Int) then ((frame_Next.f kj1 (t197.take 6)).bind fun bt229 => ((frame_Next.f kj1 (([8] : List Int))).bind fun bt237 => (if 6 < (t197.length : Int) then ((some (t197.set (6 : Int).toNat (Go.bits .xor .u8 (rd t197 6) 1) : List Int)).bind fun y243 => ((frame_Next.f kj1 y243).bind fun bt244 => (if 3 < (t197.length : Int) then (if 4 < (t197.length : Int) then (if 5 < (t197.length : Int) then (if (Go.bits .or .u32 (Go.bits .or .u32 (Go.bits .or .u32 ((((rd y243 3) % 4294967296) * 16777216) % 4294967296) ((((rd y243 4) % 4294967296) * 65536) % 4294967296)) ((((rd y243 5) % 4294967296) * 256) % 4294967296)) ((Go.bits .xor .u8 (rd y243 6) 1) % 4294967296)) = t213 then (if bt220.2.2 = 0 then ((scriptoriumref00_EqBytes.f kj1 bt220.1 (([97] : List Int))).bind fun t256 => (if t256 = true then (if bt220.2.1 = 7 then (if bt229.2.2 = 3 then (if bt237.2.2 = 4 then (some (bt244.2.2 == 40)) else (some false)) else (some false)) else (some false)) else (some false))) else (some false)) else (some false)) else (none)) else (none)) else (none)))) else (none)))) else (none))) else (none))) = some r := H
          have A19 := Aside0.mk A190
          clear A190
          replace H := Option.bind_eq_some_iff.mp H
          obtain ⟨t214, A200, H⟩ := H
          replace H : (if t214.length < 140737488355328 then ((frame_Next.f kj1 (t214 ++ [9])).bind fun bt220 => (if 6 ≤ (t197.length : Int) then ((frame_Next.f kj1 (t197.take 6)).bind fun bt229 => ((frame_Next.f kj1 (([8] : List Int))).bind fun bt237 => (if 6 < (t197.length : Int) then ((some (t197.set (6 : Int).toNat (Go.bits .xor .u8 (rd t197 6) 1) : List Int)).bind fun y243 => ((frame_Next.f kj1 y243).bind fun bt244 => (if 3 < (t197.length : Int) then (if 4 < (t197.length : Int) then (if 5 < (t197.length : Int) then (if (Go.bits .or .u32 (Go.bits .or .u32 (Go.bits .or .u32 ((((rd y243 3) % 4294967296) * 16777216) % 4294967296) ((((rd y243 4) % 4294967296) * 65536) % 4294967296)) ((((rd y243 5) % 4294967296) * 256) % 4294967296)) ((Go.bits .xor .u8 (rd y243 6) 1) % 4294967296)) = t213 then (if bt220.2.2 = 0 then ((scriptoriumref00_EqBytes.f kj1 bt220.1 (([97] : List Int))).bind fun t256 => (if t256 = true then (if bt220.2.1 = 7 then (if bt229.2.2 = 3 then (if bt237.2.2 = 4 then (some (bt244.2.2 == 40)) else (some false)) else (some false)) else (some false)) else (some false))) else (some false)) else (some false)) else (none)) else (none)) else (none)))) else (none)))) else (none))) else (none)) = some r := H
          have A20 := Aside0.mk A200
          clear A200
          by_cases c21 : t214.length < 140737488355328
          · rw [if_pos c21] at H
            have LMc21 := Aside0.mk c21
            clear c21
            obtain ⟨y217, hy217⟩ : ∃ y_ : List Int, y_ = (t214 ++ [9]) := ⟨_, rfl⟩
            replace H : ((frame_Next.f kj1 y217).bind fun bt220 => (if 6 ≤ (t197.length : Int) then ((frame_Next.f kj1 (t197.take 6)).bind fun bt229 => ((frame_Next.f kj1 (([8] : List Int))).bind fun bt237 => (if 6 < (t197.length : Int) then ((some (t197.set (6 : Int).toNat (Go.bits .xor .u8 (rd t197 6) 1) : List Int)).bind fun y243 => ((frame_Next.f kj1 y243).bind fun bt244 => (if 3 < (t197.length : Int) then (if 4 < (t197.length : Int) then (if 5 < (t197.length : Int) then (if (Go.bits .or .u32 (Go.bits .or .u32 (Go.bits .or .u32 ((((rd y243 3) % 4294967296) * 16777216) % 4294967296) ((((rd y243 4) % 4294967296) * 65536) % 4294967296)) ((((rd y243 5) % 4294967296) * 256) % 4294967296)) ((Go.bits .xor .u8 (rd y243 6) 1) % 4294967296)) = t213 then (if bt220.2.2 = 0 then ((scriptoriumref00_EqBytes.f kj1 bt220.1 (([97] : List Int))).bind fun t256 => (if t256 = true then (if bt220.2.1 = 7 then (if bt229.2.2 = 3 then (if bt237.2.2 = 4 then (some (bt244.2.2 == 40)) else (some false)) else (some false)) else (some false)) else (some false))) else (some false)) else (some false)) else (none)) else (none)) else (none)))) else (none)))) else (none))) = some r := by first | (rw [hy217]; with_reducible exact H) | (have H2_ := (Option.bind_some _ _).symm.trans H; rw [hy217]; with_reducible exact H2_) | (have H2_ := (Option.bind_some _ _).symm.trans H; with_reducible exact H2_) | with_reducible exact H | (rw [hy217]; exact H) | exact H
            have Ny217 := Aside0.mk hy217
            clear hy217
            replace H := Option.bind_eq_some_iff.mp H
            obtain ⟨⟨t220, t221, t222⟩, A220, H⟩ := H
            replace H : (if 6 ≤ (t197.length : Int) then ((frame_Next.f kj1 (t197.take 6)).bind fun bt229 => ((frame_Next.f kj1 (([8] : List Int))).bind fun bt237 => (if 6 < (t197.length : Int) then ((some (t197.set (6 : Int).toNat (Go.bits .xor .u8 (rd t197 6) 1) : List Int)).bind fun y243 => ((frame_Next.f kj1 y243).bind fun bt244 => (if 3 < (t197.length : Int) then (if 4 < (t197.length : Int) then (if 5 < (t197.length : Int) then (if (Go.bits .or .u32 (Go.bits .or .u32 (Go.bits .or .u32 ((((rd y243 3) % 4294967296) * 16777216) % 4294967296) ((((rd y243 4) % 4294967296) * 65536) % 4294967296)) ((((rd y243 5) % 4294967296) * 256) % 4294967296)) ((Go.bits .xor .u8 (rd y243 6) 1) % 4294967296)) = t213 then (if t222 = 0 then ((scriptoriumref00_EqBytes.f kj1 t220 (([97] : List Int))).bind fun t256 => (if t256 = true then (if t221 = 7 then (if bt229.2.2 = 3 then (if bt237.2.2 = 4 then (some (bt244.2.2 == 40)) else (some false)) else (some false)) else (some false)) else (some false))) else (some false)) else (some false)) else (none)) else (none)) else (none)))) else (none)))) else (none)) = some r := H
            have A22 := Aside0.mk A220
            clear A220
            by_cases c23 : 6 ≤ (t197.length : Int)
            · rw [if_pos c23] at H
              have c23b0 := eq_true c23
              have c23b1 : decide (6 ≤ (t197.length : Int)) = true := decide_eq_true c23
              clear c23
              obtain ⟨y225, hy225⟩ : ∃ y_ : List Int, y_ = (t197.take 6) := ⟨_, rfl⟩
              replace H : ((frame_Next.f kj1 y225).bind fun bt229 => ((frame_Next.f kj1 (([8] : List Int))).bind fun bt237 => (if 6 < (t197.length : Int) then ((some (t197.set (6 : Int).toNat (Go.bits .xor .u8 (rd t197 6) 1) : List Int)).bind fun y243 => ((frame_Next.f kj1 y243).bind fun bt244 => (if 3 < (t197.length : Int) then (if 4 < (t197.length : Int) then (if 5 < (t197.length : Int) then (if (Go.bits .or .u32 (Go.bits .or .u32 (Go.bits .or .u32 ((((rd y243 3) % 4294967296) * 16777216) % 4294967296) ((((rd y243 4) % 4294967296) * 65536) % 4294967296)) ((((rd y243 5) % 4294967296) * 256) % 4294967296)) ((Go.bits .xor .u8 (rd y243 6) 1) % 4294967296)) = t213 then (if t222 = 0 then ((scriptoriumref00_EqBytes.f kj1 t220 (([97] : List Int))).bind fun t256 => (if t256 = true then (if t221 = 7 then (if bt229.2.2 = 3 then (if bt237.2.2 = 4 then (some (bt244.2.2 == 40)) else (some false)) else (some false)) else (some false)) else (some false))) else (some false)) else (some false)) else (none)) else (none)) else (none)))) else (none)))) = some r := by first | (rw [hy225]; with_reducible exact H) | (have H2_ := (Option.bind_some _ _).symm.trans H; rw [hy225]; with_reducible exact H2_) | (have H2_ := (Option.bind_some _ _).symm.trans H; with_reducible exact H2_) | with_reducible exact H | (rw [hy225]; exact H) | exact H
              have Ny225 := Aside0.mk hy225
              clear hy225
              replace H := Option.bind_eq_some_iff.mp H
              obtain ⟨⟨t229, t230, t231⟩, A240, H⟩ := H
              replace H : ((frame_Next.f kj1 (([8] : List Int))).bind fun bt237 => (if 6 < (t197.length : Int) then ((some (t197.set (6 : Int).toNat (Go.bits .xor .u8 (rd t197 6) 1) : List Int)).bind fun y243 => ((frame_Next.f kj1 y243).bind fun bt244 => (if 3 < (t197.length : Int) then (if 4 < (t197.length : Int) then (if 5 < (t197.length : Int) then (if (Go.bits .or .u32 (Go.bits .or .u32 (Go.bits .or .u32 ((((rd y243 3) % 4294967296) * 16777216) % 4294967296) ((((rd y243 4) % 4294967296) * 65536) % 4294967296)) ((((rd y243 5) % 4294967296) * 256) % 4294967296)) ((Go.bits .xor .u8 (rd y243 6) 1) % 4294967296)) = t213 then (if t222 = 0 then ((scriptoriumref00_EqBytes.f kj1 t220 (([97] : List Int))).bind fun t256 => (if t256 = true then (if t221 = 7 then (if t231 = 3 then (if bt237.2.2 = 4 then (some (bt244.2.2 == 40)) else (some false)) else (some false)) else (some false)) else (some false))) else (some false)) else (some false)) else (none)) else (none)) else (none)))) else (none))) = some r := H
              have A24 := Aside0.mk A240
              clear A240
              obtain ⟨y234, hy234⟩ : ∃ y_ : List Int, y_ = (([8] : List Int)) := ⟨_, rfl⟩
              replace H : ((frame_Next.f kj1 y234).bind fun bt237 => (if 6 < (t197.length : Int) then ((some (t197.set (6 : Int).toNat (Go.bits .xor .u8 (rd t197 6) 1) : List Int)).bind fun y243 => ((frame_Next.f kj1 y243).bind fun bt244 => (if 3 < (t197.length : Int) then (if 4 < (t197.length : Int) then (if 5 < (t197.length : Int) then (if (Go.bits .or .u32 (Go.bits .or .u32 (Go.bits .or .u32 ((((rd y243 3) % 4294967296) * 16777216) % 4294967296) ((((rd y243 4) % 4294967296) * 65536) % 4294967296)) ((((rd y243 5) % 4294967296) * 256) % 4294967296)) ((Go.bits .xor .u8 (rd y243 6) 1) % 4294967296)) = t213 then (if t222 = 0 then ((scriptoriumref00_EqBytes.f kj1 t220 (([97] : List Int))).bind fun t256 => (if t256 = true then (if t221 = 7 then (if t231 = 3 then (if bt237.2.2 = 4 then (some (bt244.2.2 == 40)) else (some false)) else (some false)) else (some false)) else (some false))) else (some false)) else (some false)) else (none)) else (none)) else (none)))) else (none))) = some r := by first | (rw [hy234]; with_reducible exact H) | (have H2_ := (Option.bind_some _ _).symm.trans H; rw [hy234]; with_reducible exact H2_) | (have H2_ := (Option.bind_some _ _).symm.trans H; with_reducible exact H2_) | with_reducible exact H | (rw [hy234]; exact H) | exact H
              have Ny234 := Aside0.mk hy234
              clear hy234
              replace H := Option.bind_eq_some_iff.mp H
              obtain ⟨⟨t237, t238, t239⟩, A250, H⟩ := H
              replace H : (if 6 < (t197.length : Int) then ((some (t197.set (6 : Int).toNat (Go.bits .xor .u8 (rd t197 6) 1) : List Int)).bind fun y243 => ((frame_Next.f kj1 y243).bind fun bt244 => (if 3 < (t197.length : Int) then (if 4 < (t197.length : Int) then (if 5 < (t197.length : Int) then (if (Go.bits .or .u32 (Go.bits .or .u32 (Go.bits .or .u32 ((((rd y243 3) % 4294967296) * 16777216) % 4294967296) ((((rd y243 4) % 4294967296) * 65536) % 4294967296)) ((((rd y243 5) % 4294967296) * 256) % 4294967296)) ((Go.bits .xor .u8 (rd y243 6) 1) % 4294967296)) = t213 then (if t222 = 0 then ((scriptoriumref00_EqBytes.f kj1 t220 (([97] : List Int))).bind fun t256 => (if t256 = true then (if t221 = 7 then (if t231 = 3 then (if t239 = 4 then (some (bt244.2.2 == 40)) else (some false)) else (some false)) else (some false)) else (some false))) else (some false)) else (some false)) else (none)) else (none)) else (none)))) else (none)) = some r := H
              have A25 := Aside0.mk A250
              clear A250
              by_cases c26 : 6 < (t197.length : Int)
              · rw [if_pos c26] at H
                have c26b0 : decide (6 < (t197.length : Int)) = true := decide_eq_true c26
                have c26b1 : decide (6 < t197.length) = true := decide_eq_true (by omega)
                clear c26
                obtain ⟨y243, hy243⟩ : ∃ y_ : List Int, y_ = (t197.set (6 : Int).toNat (Go.bits .xor .u8 (rd t197 6) 1)) := ⟨_, rfl⟩
                replace H : ((frame_Next.f kj1 y243).bind fun bt244 => (if 3 < (t197.length : Int) then (if 4 < (t197.length : Int) then (if 5 < (t197.length : Int) then (if (Go.bits .or .u32 (Go.bits .or .u32 (Go.bits .or .u32 ((((rd y243 3) % 4294967296) * 16777216) % 4294967296) ((((rd y243 4) % 4294967296) * 65536) % 4294967296)) ((((rd y243 5) % 4294967296) * 256) % 4294967296)) ((Go.bits .xor .u8 (rd y243 6) 1) % 4294967296)) = t213 then (if t222 = 0 then ((scriptoriumref00_EqBytes.f kj1 t220 (([97] : List Int))).bind fun t256 => (if t256 = true then (if t221 = 7 then (if t231 = 3 then (if t239 = 4 then (some (bt244.2.2 == 40)) else (some false)) else (some false)) else (some false)) else (some false))) else (some false)) else (some false)) else (none)) else (none)) else (none))) = some r := by first | (rw [hy243]; with_reducible exact H) | (have H2_ := (Option.bind_some _ _).symm.trans H; rw [hy243]; with_reducible exact H2_) | (have H2_ := (Option.bind_some _ _).symm.trans H; with_reducible exact H2_) | with_reducible exact H | (rw [hy243]; exact H) | exact H
                have Ny243 := Aside0.mk hy243
                clear hy243
                replace H := Option.bind_eq_some_iff.mp H
                obtain ⟨⟨t244, t245, t246⟩, A280, H⟩ := H
                replace H : (if 3 < (t197.length : Int) then (if 4 < (t197.length : Int) then (if 5 < (t197.length : Int) then (if (Go.bits .or .u32 (Go.bits .or .u32 (Go.bits .or .u32 ((((rd y243 3) % 4294967296) * 16777216) % 4294967296) ((((rd y243 4) % 4294967296) * 65536) % 4294967296)) ((((rd y243 5) % 4294967296) * 256) % 4294967296)) ((Go.bits .xor .u8 (rd y243 6) 1) % 4294967296)) = t213 then (if t222 = 0 then ((scriptoriumref00_EqBytes.f kj1 t220 (([97] : List Int))).bind fun t256 => (if t256 = true then (if t221 = 7 then (if t231 = 3 then (if t239 = 4 then (some (t246 == 40)) else (some false)) else (some false)) else (some false)) else (some false))) else (some false)) else (some false)) else (none)) else (none)) else (none)) = some r := H
                have A28 := Aside0.mk A280
                clear A280
                by_cases c29 : 3 < (t197.length : Int)
                · rw [if_pos c29] at H
                  have c29b0 : decide (3 < (t197.length : Int)) = true := decide_eq_true c29
                  have c29b1 : decide (3 < t197.length) = true := decide_eq_true (by omega)
                  clear c29
                  by_cases c30 : 4 < (t197.length : Int)
                  · rw [if_pos c30] at H
                    have c30b0 : decide (4 < (t197.length : Int)) = true := decide_eq_true c30
                    have c30b1 : decide (4 < t197.length) = true := decide_eq_true (by omega)
                    clear c30
                    by_cases c31 : 5 < (t197.length : Int)
                    · rw [if_pos c31] at H
                      have c31b0 : decide (5 < (t197.length : Int)) = true := decide_eq_true c31
                      have c31b1 : decide (5 < t197.length) = true := decide_eq_true (by omega)
                      clear c31
                      by_cases c32 : (Go.bits .or .u32 (Go.bits .or .u32 (Go.bits .or .u32 ((((rd y243 3) % 4294967296) * 16777216) % 4294967296) ((((rd y243 4) % 4294967296) * 65536) % 4294967296)) ((((rd y243 5) % 4294967296) * 256) % 4294967296)) ((Go.bits .xor .u8 (rd y243 6) 1) % 4294967296)) = t213
                      · rw [if_pos c32] at H
                        have c32b0 : ((Go.bits .or .u32 (Go.bits .or .u32 (Go.bits .or .u32 ((((rd y243 3) % 4294967296) * 16777216) % 4294967296) ((((rd y243 4) % 4294967296) * 65536) % 4294967296)) ((((rd y243 5) % 4294967296) * 256) % 4294967296)) ((Go.bits .xor .u8 (rd y243 6) 1) % 4294967296)) == t213) = true := beq_iff_eq.mpr c32
                        have c32w0 : ((Go.bits .or .u32 (Go.bits .or .u32 (Go.bits .or .u32 (IntKind.u32.wrap ((IntKind.u32.wrap (rd y243 3)) * 16777216)) (IntKind.u32.wrap ((IntKind.u32.wrap (rd y243 4)) * 65536))) (IntKind.u32.wrap ((IntKind.u32.wrap (rd y243 5)) * 256))) (IntKind.u32.wrap (Go.bits .xor .u8 (rd y243 6) 1))) == t213) = true := c32b0
                        have c32b1 : ((Go.bits .or .u32 (Go.bits .or .u32 (Go.bits .or .u32 ((((rd y243 3) % 4294967296) * 16777216) % 4294967296) ((((rd y243 4) % 4294967296) * 65536) % 4294967296)) ((((rd y243 5) % 4294967296) * 256) % 4294967296)) ((Go.bits .xor .u8 (rd y243 6) 1) % 4294967296)) != t213) = false := bne_eq_false_iff_eq.mpr c32
                        have c32w1 : ((Go.bits .or .u32 (Go.bits .or .u32 (Go.bits .or .u32 (IntKind.u32.wrap ((IntKind.u32.wrap (rd y243 3)) * 16777216)) (IntKind.u32.wrap ((IntKind.u32.wrap (rd y243 4)) * 65536))) (IntKind.u32.wrap ((IntKind.u32.wrap (rd y243 5)) * 256))) (IntKind.u32.wrap (Go.bits .xor .u8 (rd y243 6) 1))) != t213) = false := c32b1
                        clear c32
                        by_cases c33 : t222 = 0
                        · rw [if_pos c33] at H
                          have c33b0 : (t222 == 0) = true := beq_iff_eq.mpr c33
                          have c33b1 : (t222 != 0) = false := bne_eq_false_iff_eq.mpr c33
                          clear c33
                          obtain ⟨y253, hy253⟩ : ∃ y_ : List Int, y_ = (([97] : List Int)) := ⟨_, rfl⟩
                          replace H : ((scriptoriumref00_EqBytes.f kj1 t220 y253).bind fun t256 => (if t256 = true then (if t221 = 7 then (if t231 = 3 then (if t239 = 4 then (some (t246 == 40)) else (some false)) else (some false)) else (some false)) else (some false))) = some r := by first | (rw [hy253]; with_reducible exact H) | (have H2_ := (Option.bind_some _ _).symm.trans H; rw [hy253]; with_reducible exact H2_) | (have H2_ := (Option.bind_some _ _).symm.trans H; with_reducible exact H2_) | with_reducible exact H | (rw [hy253]; exact H) | exact H
                          have Ny253 := Aside0.mk hy253
                          clear hy253
                          replace H := Option.bind_eq_some_iff.mp H
                          obtain ⟨t256, A340, H⟩ := H
                          replace H : (if t256 = true then (if t221 = 7 then (if t231 = 3 then (if t239 = 4 then (some (t246 == 40)) else (some false)) else (some false)) else (some false)) else (some false)) = some r := H
                          have A34 := Aside0.mk A340
                          clear A340
                          by_cases c35 : t256 = true
                          · subst c35
                            have H1 : (if t221 = 7 then (if t231 = 3 then (if t239 = 4 then (some (t246 == 40)) else (some false)) else (some false)) else (some false)) = some r := by rw [if_pos rfl] at H; exact H
                            clear H
                            have H := H1
                            clear H1
                            by_cases c36 : t221 = 7
                            · rw [if_pos c36] at H
                              have c36b0 : (t221 == 7) = true := beq_iff_eq.mpr c36
                              have c36b1 : (t221 != 7) = false := bne_eq_false_iff_eq.mpr c36
                              clear c36
                              by_cases c37 : t231 = 3
                              · rw [if_pos c37] at H
                                have c37b0 : (t231 == 3) = true := beq_iff_eq.mpr c37
                                have c37b1 : (t231 != 3) = false := bne_eq_false_iff_eq.mpr c37
                                clear c37
                                by_cases c38 : t239 = 4
                                · rw [if_pos c38] at H
                                  have c38b0 : (t239 == 4) = true := beq_iff_eq.mpr c38
                                  have c38b1 : (t239 != 4) = false := bne_eq_false_iff_eq.mpr c38
                                  clear c38
                                  obtain rfl := Option.some.inj H
                                  obtain ⟨Ao40, co40, eo40⟩ := Kd.R_slice HO_1.out
                                  subst eo40
                                  have q39 : (3 : Int) ≤ ((t197.length : Int) : Int) := of_decide_eq_true (by first | (with_reducible assumption) | assumption)
                                  obtain ⟨i039, hi039, _, hsz39, _⟩ := info_parts info5
                                  have hroom39 : t197.length ≤ co40 := (Kd.R_reads' HO_1.out).2.1
                                  have hC39 : Kd.C (Kd.int .u8) _ Ao40 t197.length t197 := (Kd.R_reads' HO_1.out).2.2
                                  have hcut39 := cut_to (P := Try.prog) 22 5 .i64 Try.underlying22 hi039 Ao40 t197.length co40 3 (by omega) q39 hroom39
                                  have hr39 := Kd.C_take (m := 3) hC39 (by omega)
                                  have hy39 : y209.length = (3 : Int).toNat := (by rw [Ny209.out, List.length_take]; omega)
                                  rw [← Ny209.out] at hr39
                                  rw [← hy39] at hcut39
                                  have HR212 := Aside0.mk hr39
                                  have HC212 := Aside0.mk (show y209.length ≤ co40 from by omega)
                                  clear hr39 hC39 hroom39 hi039 hsz39
                                  have KY39 := Aside0.mk hy39
                                  clear hy39
                                  have KL39 := Aside0.mk (show 3 ≤ t197.length from by omega)
                                  replace q39 := eq_true q39
                                  try go_wp2_with (first | ((with_reducible refine gate_callee (f := 30) rfl ?_); refine goesL_ (some 37) rfl rfl Try.func30 (by kernel_rfl) rfl #[.slice Ao40 y209.length co40] rfl (by (try simp only [List.map_toArray, List.map_cons, List.map_nil]); first | done | rfl | (simp only [List.length_drop, List.length_take]; rfl)) ?_; (with_reducible refine (crc_Of.calls _ _ y209 t213 _ ?side1 ?side2 A19.out).mono ?_); (case side1 => repeat (first | exact (by repeat (first | (with_reducible exact HR212.out) | (with_reducible refine Kd.C_alloc ?_ _) | (with_reducible refine Kd.C_drewN ?_ _) | (with_reducible refine Kd.C_drew ?_) | exact HR212.out)) | (with_reducible refine Kd.C_alloc ?_ _) | (with_reducible refine Kd.C_drewN ?_ _) | (with_reducible refine Kd.C_drew ?_))); (case side2 => exact HC212.out); rintro e w' ⟨rfl, ⟨nd, rfl⟩⟩; refine ⟨_, rfl, ?_⟩; (try (rw [drewN_self wc]; generalize hq_ : World.drewN wc _ = wc; have n0_ : Aside0 (Kd.R (Kd.int .u8) 5 wc w.heap.size (fun _ => True) (.slice Ao40 t197.length co40) t197) := ⟨by rw [← hq_]; exact (by (with_reducible repeat (first | apply Kd.R_alloc | apply Kd.R_drewN | apply Kd.R_drew)); exact HO_1.out)⟩; have n1_ : Aside0 (Below w.heap.size w wc) := ⟨by rw [← hq_]; exact (by repeat (first | (with_reducible first | exact HB.out | apply below_alloc | apply pw_below_drewN | apply below_drew1) | exact HB.out))⟩; have n2_ : Aside0 (Kd.C (Kd.int .u8) wc Ao40 y209.length y209) := ⟨by rw [← hq_]; exact (by repeat (first | (with_reducible exact HR212.out) | (with_reducible refine Kd.C_alloc ?_ _) | (with_reducible refine Kd.C_drewN ?_ _) | (with_reducible refine Kd.C_drew ?_) | exact HR212.out))⟩; clear HO_1 HB HR212 hq_; have HO_1 := n0_; have HB := n1_; have HR212 := n2_; clear n0_ n1_ n2_))) | ((with_reducible refine gate_callee (f := 12) rfl ?_); refine goesL_ (some 40) rfl rfl Try.func12 (by kernel_rfl) rfl #[.slice Ao40 t197.length co40] rfl (by (try simp only [List.map_toArray, List.map_cons, List.map_nil]); first | done | rfl | (simp only [List.length_drop, List.length_take]; rfl)) ?_; (with_reducible refine (scriptoriumref00_CopyBytes.calls _ _ t197 t214 _ ?side1 ?side2 A20.out).mono ?_); (case side1 => repeat (first | exact (Kd.R_reads' HO_1.out).2.2 | (with_reducible refine Kd.C_alloc ?_ _) | (with_reducible refine Kd.C_drewN ?_ _) | (with_reducible refine Kd.C_drew ?_))); (case side2 => exact (Kd.R_reads' HO_1.out).2.1); rintro e w41 ⟨v215, rfl, ho0, hb⟩; refine ⟨_, rfl, ?_⟩; have n0_ := Aside0.mk (Kd.R_elder' (by (with_reducible repeat (first | apply Kd.R_alloc | apply Kd.R_drewN | apply Kd.R_drew)); exact HO_1.out) (Kd.R_base ho0) hb); have n1_ := Aside0.mk (Kd.R_lower (Kd.R_new' ho0 (Kd.R_lt (by (with_reducible repeat (first | apply Kd.R_alloc | apply Kd.R_drewN | apply Kd.R_drew)); exact HO_1.out))) (below_size (by repeat (first | (with_reducible first | exact HB.out | apply below_alloc | apply pw_below_drewN | apply below_drew1) | exact HB.out)))); have n2_ := Aside0.mk (Kd.C_below (by repeat (first | (with_reducible exact HR212.out) | (with_reducible refine Kd.C_alloc ?_ _) | (with_reducible refine Kd.C_drewN ?_ _) | (with_reducible refine Kd.C_drew ?_) | exact HR212.out)) hb); have n3_ := Aside0.mk (below_step (by repeat (first | (with_reducible first | exact HB.out | apply below_alloc | apply pw_below_drewN | apply below_drew1) | exact HB.out)) hb); clear HO_1; clear HR212; clear HB; have HO_1 := n0_; have HO216 := n1_; have HR212 := n2_; have HB := n3_; clear n0_ n1_ n2_ n3_; (try clear hb); (try clear hb2); (try clear hk); (try clear hi); (try clear ho0)) | ((with_reducible refine gate_builtin (b := .append) (xs := #[.tmp 40, .tmp 41]) rfl ?_); (try (refine gate_guard (by rfl) ?_; dsimp only)); at_builtin; refine Kd.R_append (Kd.int .u8) (w0 := w) w.heap.size rfl (.tmp 40) (.tmp 41) 22 5 (.int .u8 0) 1 rfl Try.underlying22 info5 rfl (by decide) (by omega) v215 t214 9 [.int .u8 9] (fun k_ => some k_ ≠ (.slice Ao40 t197.length co40 : Value).ownBlock) (fun _ => False) rfl rfl ?aP (fun _ hk => hk.elim) ?aF ?aO ?aB ?aS ?aL ?_; (case aP => exact rfl); (case aB => exact (by repeat (first | (with_reducible first | exact HB.out | apply below_alloc | apply pw_below_drewN | apply below_drew1) | exact HB.out))); (case aF => exact (fun k_ hk => Kd.fresh' (Kd.R_lt (by (with_reducible repeat (first | apply Kd.R_alloc | apply Kd.R_drewN | apply Kd.R_drew)); exact HO_1.out)) k_ hk)); (case aO => exact (by (with_reducible repeat (first | apply Kd.R_alloc | apply Kd.R_drewN | apply Kd.R_drew)); exact Kd.R_mono HO216.out (fun _ hk => hk.2))); (case aS => exact (below_size (by repeat (first | (with_reducible first | exact HB.out | apply below_alloc | apply pw_below_drewN | apply below_drew1) | exact HB.out)))); (case aL => have := LMc21.out; omega); intro v218 w42 ho hb hg hat; rw [← Ny217.out] at ho; have n0_ := Aside0.mk (Kd.R_after (ok := (fun _ => True)) (by (with_reducible repeat (first | apply Kd.R_alloc | apply Kd.R_drewN | apply Kd.R_drew)); exact HO_1.out) hg hat); have n1_ := Aside0.mk (hb); have n2_ := Aside0.mk ((show Kd.C (Kd.int .u8) w42 Ao40 y209.length y209 from by rw [Ny209.out]; exact Kd.C_take (m := 3) ((Kd.R_reads' (Kd.R_after (ok := (fun _ => True)) (by (with_reducible repeat (first | apply Kd.R_alloc | apply Kd.R_drewN | apply Kd.R_drew)); exact HO_1.out) hg hat)).2.2) KL39.out)); have n3_ := Aside0.mk (ho); clear HO_1; clear HB; clear HR212; clear HO216; have HO_1 := n0_; have HB := n1_; have HR212 := n2_; have HO219 := n3_; clear n0_ n1_ n2_ n3_; clear ho hb hg hat; obtain ⟨Ao43, co43, eo43⟩ := Kd.R_slice HO219.out; subst eo43) | ((with_reducible refine gate_callee (f := 18) rfl ?_); refine goesL_ (some 43) rfl rfl Try.func18 (by kernel_rfl) rfl #[.slice Ao43 y217.length co43] rfl (by (try simp only [List.map_toArray, List.map_cons, List.map_nil]); first | done | rfl | (simp only [List.length_drop, List.length_take]; rfl)) ?_; (with_reducible refine (frame_Next.calls kj1 _ _ y217 t220 t221 t222 _ ?side1 ?side2 A22.out).mono ?_); (case side1 => repeat (first | exact (Kd.R_reads' HO219.out).2.2 | (with_reducible refine Kd.C_alloc ?_ _) | (with_reducible refine Kd.C_drewN ?_ _) | (with_reducible refine Kd.C_drew ?_))); (case side2 => exact (Kd.R_reads' HO219.out).2.1); rintro e w44 ⟨v223, rfl, ho0, hb⟩; refine ⟨_, rfl, ?_⟩; have n0_ := Aside0.mk (Kd.R_elder' (by (with_reducible repeat (first | apply Kd.R_alloc | apply Kd.R_drewN | apply Kd.R_drew)); exact HO_1.out) (Kd.R_base ho0) hb); have n1_ := Aside0.mk (Kd.R_elder' (by (with_reducible repeat (first | apply Kd.R_alloc | apply Kd.R_drewN | apply Kd.R_drew)); exact HO219.out) (Kd.R_base ho0) hb); have n2_ := Aside0.mk (Kd.R_lower (Kd.R_new' (Kd.R_new' ho0 (Kd.R_lt (by (with_reducible repeat (first | apply Kd.R_alloc | apply Kd.R_drewN | apply Kd.R_drew)); exact HO_1.out))) (Kd.R_lt (by (with_reducible repeat (first | apply Kd.R_alloc | apply Kd.R_drewN | apply Kd.R_drew)); exact HO219.out))) (below_size (by repeat (first | (with_reducible first | exact HB.out | apply below_alloc | apply pw_below_drewN | apply below_drew1) | exact HB.out)))); have n3_ := Aside0.mk (Kd.C_below (by repeat (first | (with_reducible exact HR212.out) | (with_reducible refine Kd.C_alloc ?_ _) | (with_reducible refine Kd.C_drewN ?_ _) | (with_reducible refine Kd.C_drew ?_) | exact HR212.out)) hb); have n4_ := Aside0.mk (below_step (by repeat (first | (with_reducible first | exact HB.out | apply below_alloc | apply pw_below_drewN | apply below_drew1) | exact HB.out)) hb); clear HO_1; clear HO219; clear HR212; clear HB; have HO_1 := n0_; have HO219 := n1_; have HO224 := n2_; have HR212 := n3_; have HB := n4_; clear n0_ n1_ n2_ n3_ n4_; (try clear hb); (try clear hb2); (try clear hk); (try clear hi); (try clear ho0); have q45 : (6 : Int) ≤ ((t197.length : Int) : Int) := of_decide_eq_true (by first | (with_reducible assumption) | assumption); obtain ⟨i045, hi045, _, hsz45, _⟩ := info_parts info5; have hroom45 : t197.length ≤ co40 := (Kd.R_reads' HO_1.out).2.1; have hC45 : Kd.C (Kd.int .u8) _ Ao40 t197.length t197 := (Kd.R_reads' HO_1.out).2.2; have hcut45 := cut_to (P := Try.prog) 22 5 .i64 Try.underlying22 hi045 Ao40 t197.length co40 6 (by omega) q45 hroom45; have hr45 := Kd.C_take (m := 6) hC45 (by omega); have hy45 : y225.length = (6 : Int).toNat := (by rw [Ny225.out, List.length_take]; omega); rw [← Ny225.out] at hr45; rw [← hy45] at hcut45; have HR228 := Aside0.mk hr45; have HC228 := Aside0.mk (show y225.length ≤ co40 from by omega); clear hr45 hC45 hroom45 hi045 hsz45; have KY45 := Aside0.mk hy45; clear hy45; have KL45 := Aside0.mk (show 6 ≤ t197.length from by omega); replace q45 := eq_true q45) | ((with_reducible refine gate_callee (f := 18) rfl ?_); refine goesL_ (some 50) rfl rfl Try.func18 (by kernel_rfl) rfl #[.slice Ao40 y225.length co40] rfl (by (try simp only [List.map_toArray, List.map_cons, List.map_nil]); first | done | rfl | (simp only [List.length_drop, List.length_take]; rfl)) ?_; (with_reducible refine (frame_Next.calls kj1 _ _ y225 t229 t230 t231 _ ?side1 ?side2 A24.out).mono ?_); (case side1 => repeat (first | exact (by repeat (first | (with_reducible exact HR228.out) | (with_reducible refine Kd.C_alloc ?_ _) | (with_reducible refine Kd.C_drewN ?_ _) | (with_reducible refine Kd.C_drew ?_) | exact HR228.out)) | (with_reducible refine Kd.C_alloc ?_ _) | (with_reducible refine Kd.C_drewN ?_ _) | (with_reducible refine Kd.C_drew ?_))); (case side2 => exact HC228.out); rintro e w46 ⟨v232, rfl, ho0, hb⟩; refine ⟨_, rfl, ?_⟩; have n0_ := Aside0.mk (Kd.R_elder' (by (with_reducible repeat (first | apply Kd.R_alloc | apply Kd.R_drewN | apply Kd.R_drew)); exact HO_1.out) (Kd.R_base ho0) hb); have n1_ := Aside0.mk (Kd.R_elder' (by (with_reducible repeat (first | apply Kd.R_alloc | apply Kd.R_drewN | apply Kd.R_drew)); exact HO219.out) (Kd.R_base ho0) hb); have n2_ := Aside0.mk (Kd.R_elder' (by (with_reducible repeat (first | apply Kd.R_alloc | apply Kd.R_drewN | apply Kd.R_drew)); exact HO224.out) (Kd.R_base ho0) hb); have n3_ := Aside0.mk (Kd.R_lower (Kd.R_new' (Kd.R_new' (Kd.R_new' ho0 (Kd.R_lt (by (with_reducible repeat (first | apply Kd.R_alloc | apply Kd.R_drewN | apply Kd.R_drew)); exact HO_1.out))) (Kd.R_lt (by (with_reducible repeat (first | apply Kd.R_alloc | apply Kd.R_drewN | apply Kd.R_drew)); exact HO219.out))) (Kd.R_lt (by (with_reducible repeat (first | apply Kd.R_alloc | apply Kd.R_drewN | apply Kd.R_drew)); exact HO224.out))) (below_size (by repeat (first | (with_reducible first | exact HB.out | apply below_alloc | apply pw_below_drewN | apply below_drew1) | exact HB.out)))); have n4_ := Aside0.mk (Kd.C_below (by repeat (first | (with_reducible exact HR212.out) | (with_reducible refine Kd.C_alloc ?_ _) | (with_reducible refine Kd.C_drewN ?_ _) | (with_reducible refine Kd.C_drew ?_) | exact HR212.out)) hb); have n5_ := Aside0.mk (Kd.C_below (by repeat (first | (with_reducible exact HR228.out) | (with_reducible refine Kd.C_alloc ?_ _) | (with_reducible refine Kd.C_drewN ?_ _) | (with_reducible refine Kd.C_drew ?_) | exact HR228.out)) hb); have n6_ := Aside0.mk (below_step (by repeat (first | (with_reducible first | exact HB.out | apply below_alloc | apply pw_below_drewN | apply below_drew1) | exact HB.out)) hb); clear HO_1; clear HO219; clear HO224; clear HR212; clear HR228; clear HB; have HO_1 := n0_; have HO219 := n1_; have HO224 := n2_; have HO233 := n3_; have HR212 := n4_; have HR228 := n5_; have HB := n6_; clear n0_ n1_ n2_ n3_ n4_ n5_ n6_; (try clear hb); (try clear hb2); (try clear hk); (try clear hi); (try clear ho0)) | ((with_reducible refine gate_dst (N := 55) rfl ?_); (try (refine gate_guard (by rfl) ?_; dsimp only)); refine Kd.R_lit (Kd.int .u8) _ 5 ?hg (N := 55) ?hd (xs := ([8] : List Int)) (inner := [.int .u8 8]) (ok := fun _ => True) (okp := fun _ => True) ?hr ?hp (fun _ hk => hk) trivial (Below.refl _ _) (Nat.le_refl _) (by simp) ?_; (case hd => rfl); (case hg => rfl); (case hr => first | (go_simp; done) | (go_simp; rfl)); (case hp => exact (Reps.one (show Kd.M (Kd.int .u8) _ _ _ 8 [.int .u8 8] from rfl) (Reps.none _ _))); intro v235 w47 ho48 hb hg_ hnew_; clear hg_ hnew_; (first | rw [← Ny234.out] at ho48 | (simp only [Int.reduceToNat] at ho48; rw [← Ny234.out] at ho48)); have n0_ := Aside0.mk (Kd.R_elder' (by (with_reducible repeat (first | apply Kd.R_alloc | apply Kd.R_drewN | apply Kd.R_drew)); exact HO_1.out) (Kd.R_base ho48) hb); have n1_ := Aside0.mk (Kd.R_elder' (by (with_reducible repeat (first | apply Kd.R_alloc | apply Kd.R_drewN | apply Kd.R_drew)); exact HO219.out) (Kd.R_base ho48) hb); have n2_ := Aside0.mk (Kd.R_elder' (by (with_reducible repeat (first | apply Kd.R_alloc | apply Kd.R_drewN | apply Kd.R_drew)); exact HO224.out) (Kd.R_base ho48) hb); have n3_ := Aside0.mk (Kd.R_elder' (by (with_reducible repeat (first | apply Kd.R_alloc | apply Kd.R_drewN | apply Kd.R_drew)); exact HO233.out) (Kd.R_base ho48) hb); have n4_ := Aside0.mk (Kd.R_lower (Kd.R_new' (Kd.R_new' (Kd.R_new' (Kd.R_new' ho48 (Kd.R_lt (by (with_reducible repeat (first | apply Kd.R_alloc | apply Kd.R_drewN | apply Kd.R_drew)); exact HO_1.out))) (Kd.R_lt (by (with_reducible repeat (first | apply Kd.R_alloc | apply Kd.R_drewN | apply Kd.R_drew)); exact HO219.out))) (Kd.R_lt (by (with_reducible repeat (first | apply Kd.R_alloc | apply Kd.R_drewN | apply Kd.R_drew)); exact HO224.out))) (Kd.R_lt (by (with_reducible repeat (first | apply Kd.R_alloc | apply Kd.R_drewN | apply Kd.R_drew)); exact HO233.out))) (below_size (by repeat (first | (with_reducible first | exact HB.out | apply below_alloc | apply pw_below_drewN | apply below_drew1) | exact HB.out)))); have n5_ := Aside0.mk (Kd.C_below (by repeat (first | (with_reducible exact HR212.out) | (with_reducible refine Kd.C_alloc ?_ _) | (with_reducible refine Kd.C_drewN ?_ _) | (with_reducible refine Kd.C_drew ?_) | exact HR212.out)) hb); have n6_ := Aside0.mk (Kd.C_below (by repeat (first | (with_reducible exact HR228.out) | (with_reducible refine Kd.C_alloc ?_ _) | (with_reducible refine Kd.C_drewN ?_ _) | (with_reducible refine Kd.C_drew ?_) | exact HR228.out)) hb); have n7_ := Aside0.mk (below_step (by repeat (first | (with_reducible first | exact HB.out | apply below_alloc | apply pw_below_drewN | apply below_drew1) | exact HB.out)) hb); clear HO_1; clear HO219; clear HO224; clear HO233; clear HR212; clear HR228; clear HB; have HO_1 := n0_; have HO219 := n1_; have HO224 := n2_; have HO233 := n3_; have HO236 := n4_; have HR212 := n5_; have HR228 := n6_; have HB := n7_; clear n0_ n1_ n2_ n3_ n4_ n5_ n6_ n7_; clear hb ho48; obtain ⟨Ao49, co49, eo49⟩ := Kd.R_slice HO236.out; subst eo49) | ((with_reducible refine gate_callee (f := 18) rfl ?_); refine goesL_ (some 56) rfl rfl Try.func18 (by kernel_rfl) rfl #[.slice Ao49 y234.length co49] rfl (by (try simp only [List.map_toArray, List.map_cons, List.map_nil]); first | done | rfl | (simp only [List.length_drop, List.length_take]; rfl)) ?_; (with_reducible refine (frame_Next.calls kj1 _ _ y234 t237 t238 t239 _ ?side1 ?side2 A25.out).mono ?_); (case side1 => repeat (first | exact (Kd.R_reads' HO236.out).2.2 | (with_reducible refine Kd.C_alloc ?_ _) | (with_reducible refine Kd.C_drewN ?_ _) | (with_reducible refine Kd.C_drew ?_))); (case side2 => exact (Kd.R_reads' HO236.out).2.1); rintro e w50 ⟨v240, rfl, ho0, hb⟩; refine ⟨_, rfl, ?_⟩; have n0_ := Aside0.mk (Kd.R_elder' (by (with_reducible repeat (first | apply Kd.R_alloc | apply Kd.R_drewN | apply Kd.R_drew)); exact HO_1.out) (Kd.R_base ho0) hb); have n1_ := Aside0.mk (Kd.R_elder' (by (with_reducible repeat (first | apply Kd.R_alloc | apply Kd.R_drewN | apply Kd.R_drew)); exact HO219.out) (Kd.R_base ho0) hb); have n2_ := Aside0.mk (Kd.R_elder' (by (with_reducible repeat (first | apply Kd.R_alloc | apply Kd.R_drewN | apply Kd.R_drew)); exact HO224.out) (Kd.R_base ho0) hb); have n3_ := Aside0.mk (Kd.R_elder' (by (with_reducible repeat (first | apply Kd.R_alloc | apply Kd.R_drewN | apply Kd.R_drew)); exact HO233.out) (Kd.R_base ho0) hb); have n4_ := Aside0.mk (Kd.R_elder' (by (with_reducible repeat (first | apply Kd.R_alloc | apply Kd.R_drewN | apply Kd.R_drew)); exact HO236.out) (Kd.R_base ho0) hb); have n5_ := Aside0.mk (Kd.R_lower (Kd.R_new' (Kd.R_new' (Kd.R_new' (Kd.R_new' (Kd.R_new' ho0 (Kd.R_lt (by (with_reducible repeat (first | apply Kd.R_alloc | apply Kd.R_drewN | apply Kd.R_drew)); exact HO_1.out))) (Kd.R_lt (by (with_reducible repeat (first | apply Kd.R_alloc | apply Kd.R_drewN | apply Kd.R_drew)); exact HO219.out))) (Kd.R_lt (by (with_reducible repeat (first | apply Kd.R_alloc | apply Kd.R_drewN | apply Kd.R_drew)); exact HO224.out))) (Kd.R_lt (by (with_reducible repeat (first | apply Kd.R_alloc | apply Kd.R_drewN | apply Kd.R_drew)); exact HO233.out))) (Kd.R_lt (by (with_reducible repeat (first | apply Kd.R_alloc | apply Kd.R_drewN | apply Kd.R_drew)); exact HO236.out))) (below_size (by repeat (first | (with_reducible first | exact HB.out | apply below_alloc | apply pw_below_drewN | apply below_drew1) | exact HB.out)))); have n6_ := Aside0.mk (Kd.C_below (by repeat (first | (with_reducible exact HR212.out) | (with_reducible refine Kd.C_alloc ?_ _) | (with_reducible refine Kd.C_drewN ?_ _) | (with_reducible refine Kd.C_drew ?_) | exact HR212.out)) hb); have n7_ := Aside0.mk (Kd.C_below (by repeat (first | (with_reducible exact HR228.out) | (with_reducible refine Kd.C_alloc ?_ _) | (with_reducible refine Kd.C_drewN ?_ _) | (with_reducible refine Kd.C_drew ?_) | exact HR228.out)) hb); have n8_ := Aside0.mk (below_step (by repeat (first | (with_reducible first | exact HB.out | apply below_alloc | apply pw_below_drewN | apply below_drew1) | exact HB.out)) hb); clear HO_1; clear HO219; clear HO224; clear HO233; clear HO236; clear HR212; clear HR228; clear HB; have HO_1 := n0_; have HO219 := n1_; have HO224 := n2_; have HO233 := n3_; have HO236 := n4_; have HO241 := n5_; have HR212 := n6_; have HR228 := n7_; have HB := n8_; clear n0_ n1_ n2_ n3_ n4_ n5_ n6_ n7_ n8_; (try clear hb); (try clear hb2); (try clear hk); (try clear hi); (try clear ho0); have p242 : 0 ≤ (6 : Int) := (by omega); have q242 : 6 < (t197.length : Int) := of_decide_eq_true (by first | (with_reducible assumption) | assumption); obtain ⟨ad242, e242, hx242_0⟩ := Kd.at_int (Kd.R_reads' HO_1.out).2.2 6 p242 q242; cases e242; (try simp only [show (6 : Int).toNat = 6 from rfl, Nat.reduceMul, Nat.reduceEqDiff, Go.Addr.add, ↓reduceIte] at hx242_0); have qi242 : (6 < t197.length) = True := eq_true (by omega); (try rw [show ((6 : Int)).toNat = 6 from rfl] at hx242_0); replace p242 := eq_true p242; replace q242 := eq_true q242; have p27 : 0 ≤ (6 : Int) := (by omega); have q27 : (6 : Int) < ((t197.length : Int) : Int) := of_decide_eq_true (by first | (with_reducible assumption) | assumption); have qi27 : (6 < t197.length) = True := eq_true (by omega); obtain ⟨go27, co27, eo27, gb27, gl27, cl27, HG27⟩ := Kd.R_form HO_1.out (by omega); (first | cases eo27 | (injection eo27 with ea_ en_ ec_; (first | subst ea_ | (injection ea_ with ea_; subst ea_)); subst ec_; clear en_)); have GB27 := Aside0.mk gb27; have GG27 := Aside0.mk HG27; clear gb27 gl27 HG27; (first | simp only [add_plain] at hx242_0 | skip); obtain ⟨hx27_0, hf27_0⟩ := Kd.R_celln 0 HO_1.out (6 : Int) p27 q27; (try rw [show ((6 : Int)).toNat = 6 from rfl] at hx27_0); (try simp only [Nat.reduceMul, Nat.zero_mul, Nat.zero_add, Nat.reduceAdd] at hx27_0); (try rw [show ((6 : Int)).toNat = 6 from rfl] at hf27_0); (try simp only [Nat.reduceMul, Nat.zero_mul, Nat.zero_add, Nat.reduceAdd] at hf27_0); replace p27 := eq_true p27; replace q27 := eq_true q27; have n_ := Aside0.mk (Kd.R_mono (ok' := (fun k_ => some k_ ≠ (.slice Ao43 y217.length co43 : Value).ownBlock ∧ some k_ ≠ (v223 : Value).ownBlock ∧ some k_ ≠ (v232 : Value).ownBlock ∧ some k_ ≠ (.slice Ao49 y234.length co49 : Value).ownBlock ∧ some k_ ≠ (v240 : Value).ownBlock)) HO_1.out (fun k_ hk => ⟨hk.1.1.1.1.2, ⟨hk.1.1.1.2, ⟨hk.1.1.2, ⟨hk.1.2, hk.2⟩⟩⟩⟩)); clear HO_1; have HO_1 := n_; clear n_; obtain ⟨hy51_, hz51_⟩ := Kd.R_celln 0 HO_1.out (6 : Int) (by omega) (of_decide_eq_true (by first | (with_reducible assumption) | assumption)); (try simp only [Int.reduceToNat, Int.toNat_zero, Int.toNat_ofNat, Nat.reduceMul, Nat.zero_mul, Nat.zero_add] at hy51_ hz51_); (try rw [show ((6 : Int)).toNat = 6 from rfl] at hy51_); (try rw [show ((6 : Int)).toNat = 6 from rfl] at hz51_); have HP51 := Kd.R_putg HO_1.out (6 : Int) (Go.bits .xor .u8 (rd t197 6) 1)) | ((with_reducible refine gate_store (t := 5) (p := 65) rfl ?_); refine store_event (t := 5) (p := 65) (v := ?vo_w52) (w1 := (w50.setCell ⟨go27, (6 : Int).toNat, none⟩ (.int .u8 (Go.bits .xor .u8 (rd t197 6) 1)))) ?hg ?ho ?hn ?hr ?_; (case ho => rfl); (case hg => rfl); (case hn => rfl); (case hr => first | (go_simp; done) | (go_simp; rfl)); intro w52 hw; have hg : w50.grownBy w52 (some go27) := (by rw [hw]; exact HP51.2); have hp_ : Kd.R (Kd.int .u8) 5 w52 w.heap.size (fun k_ => some k_ ≠ (.slice Ao43 y217.length co43 : Value).ownBlock ∧ some k_ ≠ (v223 : Value).ownBlock ∧ some k_ ≠ (v232 : Value).ownBlock ∧ some k_ ≠ (.slice Ao49 y234.length co49 : Value).ownBlock ∧ some k_ ≠ (v240 : Value).ownBlock) (.slice (some ⟨go27, 0, none⟩) t197.length co40) y243 := (by rw [hw, Ny243.out]; exact HP51.1); clear HP51; have n0_ := Aside0.mk (hp_); have n1_ := Aside0.mk (Kd.R_after (v := (.slice (some ⟨go27, 0, none⟩) t197.length co40)) (v1 := (.slice (some ⟨go27, 0, none⟩) t197.length co40)) (ok := (fun k_ => some k_ ≠ (v223 : Value).ownBlock ∧ some k_ ≠ (v232 : Value).ownBlock ∧ some k_ ≠ (.slice Ao49 y234.length co49 : Value).ownBlock ∧ some k_ ≠ (v240 : Value).ownBlock)) (by (with_reducible repeat (first | apply Kd.R_alloc | apply Kd.R_drewN | apply Kd.R_drew)); exact Kd.R_mono HO219.out (fun _ hk => ⟨⟨hk.1.1.1.2, ⟨hk.1.1.2, ⟨hk.1.2, hk.2⟩⟩⟩, hk.1.1.1.1⟩)) hg (.inl rfl)); have n2_ := Aside0.mk (Kd.R_after (v := (.slice (some ⟨go27, 0, none⟩) t197.length co40)) (v1 := (.slice (some ⟨go27, 0, none⟩) t197.length co40)) (ok := (fun k_ => some k_ ≠ (.slice Ao43 y217.length co43 : Value).ownBlock ∧ some k_ ≠ (v232 : Value).ownBlock ∧ some k_ ≠ (.slice Ao49 y234.length co49 : Value).ownBlock ∧ some k_ ≠ (v240 : Value).ownBlock)) (by (with_reducible repeat (first | apply Kd.R_alloc | apply Kd.R_drewN | apply Kd.R_drew)); exact Kd.R_mono HO224.out (fun _ hk => ⟨⟨hk.1.1.1.2, ⟨hk.1.1.2, ⟨hk.1.2, hk.2⟩⟩⟩, hk.1.1.1.1.2⟩)) hg (.inl rfl)); have n3_ := Aside0.mk (Kd.R_after (v := (.slice (some ⟨go27, 0, none⟩) t197.length co40)) (v1 := (.slice (some ⟨go27, 0, none⟩) t197.length co40)) (ok := (fun k_ => some k_ ≠ (.slice Ao43 y217.length co43 : Value).ownBlock ∧ some k_ ≠ (v223 : Value).ownBlock ∧ some k_ ≠ (.slice Ao49 y234.length co49 : Value).ownBlock ∧ some k_ ≠ (v240 : Value).ownBlock)) (by (with_reducible repeat (first | apply Kd.R_alloc | apply Kd.R_drewN | apply Kd.R_drew)); exact Kd.R_mono HO233.out (fun _ hk => ⟨⟨hk.1.1.1.2, ⟨hk.1.1.2, ⟨hk.1.2, hk.2⟩⟩⟩, hk.1.1.1.1.2⟩)) hg (.inl rfl)); have n4_ := Aside0.mk (Kd.R_after (v := (.slice (some ⟨go27, 0, none⟩) t197.length co40)) (v1 := (.slice (some ⟨go27, 0, none⟩) t197.length co40)) (ok := (fun k_ => some k_ ≠ (.slice Ao43 y217.length co43 : Value).ownBlock ∧ some k_ ≠ (v223 : Value).ownBlock ∧ some k_ ≠ (v232 : Value).ownBlock ∧ some k_ ≠ (v240 : Value).ownBlock)) (by (with_reducible repeat (first | apply Kd.R_alloc | apply Kd.R_drewN | apply Kd.R_drew)); exact Kd.R_mono HO236.out (fun _ hk => ⟨⟨hk.1.1.1.2, ⟨hk.1.1.2, ⟨hk.1.2, hk.2⟩⟩⟩, hk.1.1.1.1.2⟩)) hg (.inl rfl)); have n5_ := Aside0.mk (Kd.R_after (v := (.slice (some ⟨go27, 0, none⟩) t197.length co40)) (v1 := (.slice (some ⟨go27, 0, none⟩) t197.length co40)) (ok := (fun k_ => some k_ ≠ (.slice Ao43 y217.length co43 : Value).ownBlock ∧ some k_ ≠ (v223 : Value).ownBlock ∧ some k_ ≠ (v232 : Value).ownBlock ∧ some k_ ≠ (.slice Ao49 y234.length co49 : Value).ownBlock)) (by (with_reducible repeat (first | apply Kd.R_alloc | apply Kd.R_drewN | apply Kd.R_drew)); exact Kd.R_mono HO241.out (fun _ hk => ⟨⟨hk.1.1.1.2, ⟨hk.1.1.2, ⟨hk.1.2, hk.2⟩⟩⟩, hk.1.1.1.1.2⟩)) hg (.inl rfl)); have n6_ := Aside0.mk ((by rw [hw]; exact below_set (HB.out) GB27.out : Below w.heap.size w w52)); clear HO_1; clear HO219; clear HO224; clear HO233; clear HO236; clear HO241; clear HB; have HO_1 := n0_; have HO219 := n1_; have HO224 := n2_; have HO233 := n3_; have HO236 := n4_; have HO241 := n5_; have HB := n6_; clear n0_ n1_ n2_ n3_ n4_ n5_ n6_; clear hg hw hp_) | ((with_reducible refine gate_callee (f := 18) rfl ?_); refine goesL_ (some 68) rfl rfl Try.func18 (by kernel_rfl) rfl #[.slice (some ⟨go27, 0, none⟩) y243.length co40] rfl (by (try simp only [List.map_toArray, List.map_cons, List.map_nil]); first | done | (rw [show y243.length = t197.length from (Kd.R_reads' HO_1.out).1.symm] <;> rfl) | rfl | (simp only [List.length_drop, List.length_take]; rfl)) ?_; (with_reducible refine (frame_Next.calls kj1 _ _ y243 t244 t245 t246 _ ?side1 ?side2 A28.out).mono ?_); (case side1 => repeat (first | exact (Kd.R_reads' HO_1.out).2.2 | (with_reducible refine Kd.C_alloc ?_ _) | (with_reducible refine Kd.C_drewN ?_ _) | (with_reducible refine Kd.C_drew ?_))); (case side2 => rw [show y243.length = t197.length from (Kd.R_reads' HO_1.out).1.symm]; exact (Kd.R_reads' HO_1.out).2.1); rintro e w53 ⟨v247, rfl, ho0, hb⟩; refine ⟨_, rfl, ?_⟩; have n0_ := Aside0.mk (Kd.R_elder' (by (with_reducible repeat (first | apply Kd.R_alloc | apply Kd.R_drewN | apply Kd.R_drew)); exact HO_1.out) (Kd.R_base ho0) hb); have n1_ := Aside0.mk (Kd.R_elder' (by (with_reducible repeat (first | apply Kd.R_alloc | apply Kd.R_drewN | apply Kd.R_drew)); exact HO219.out) (Kd.R_base ho0) hb); have n2_ := Aside0.mk (Kd.R_elder' (by (with_reducible repeat (first | apply Kd.R_alloc | apply Kd.R_drewN | apply Kd.R_drew)); exact HO224.out) (Kd.R_base ho0) hb); have n3_ := Aside0.mk (Kd.R_elder' (by (with_reducible repeat (first | apply Kd.R_alloc | apply Kd.R_drewN | apply Kd.R_drew)); exact HO233.out) (Kd.R_base ho0) hb); have n4_ := Aside0.mk (Kd.R_elder' (by (with_reducible repeat (first | apply Kd.R_alloc | apply Kd.R_drewN | apply Kd.R_drew)); exact HO236.out) (Kd.R_base ho0) hb); have n5_ := Aside0.mk (Kd.R_elder' (by (with_reducible repeat (first | apply Kd.R_alloc | apply Kd.R_drewN | apply Kd.R_drew)); exact HO241.out) (Kd.R_base ho0) hb); have n6_ := Aside0.mk (Kd.R_lower (Kd.R_new' (Kd.R_new' (Kd.R_new' (Kd.R_new' (Kd.R_new' (Kd.R_new' ho0 (Kd.R_lt (by (with_reducible repeat (first | apply Kd.R_alloc | apply Kd.R_drewN | apply Kd.R_drew)); exact HO_1.out))) (Kd.R_lt (by (with_reducible repeat (first | apply Kd.R_alloc | apply Kd.R_drewN | apply Kd.R_drew)); exact HO219.out))) (Kd.R_lt (by (with_reducible repeat (first | apply Kd.R_alloc | apply Kd.R_drewN | apply Kd.R_drew)); exact HO224.out))) (Kd.R_lt (by (with_reducible repeat (first | apply Kd.R_alloc | apply Kd.R_drewN | apply Kd.R_drew)); exact HO233.out))) (Kd.R_lt (by (with_reducible repeat (first | apply Kd.R_alloc | apply Kd.R_drewN | apply Kd.R_drew)); exact HO236.out))) (Kd.R_lt (by (with_reducible repeat (first | apply Kd.R_alloc | apply Kd.R_drewN | apply Kd.R_drew)); exact HO241.out))) (below_size (by repeat (first | (with_reducible first | exact HB.out | apply below_alloc | apply pw_below_drewN | apply below_drew1) | exact HB.out)))); have n7_ := Aside0.mk (below_step (by repeat (first | (with_reducible first | exact HB.out | apply below_alloc | apply pw_below_drewN | apply below_drew1) | exact HB.out)) hb); clear HO_1; clear HO219; clear HO224; clear HO233; clear HO236; clear HO241; clear HB; have HO_1 := n0_; have HO219 := n1_; have HO224 := n2_; have HO233 := n3_; have HO236 := n4_; have HO241 := n5_; have HO248 := n6_; have HB := n7_; clear n0_ n1_ n2_ n3_ n4_ n5_ n6_ n7_; (try clear hb); (try clear hb2); (try clear hk); (try clear hi); (try clear ho0)))
                                  have n0_ := Aside0.mk (Kd.R_drew HO_1.out)
                                  have n1_ := Aside0.mk (Kd.R_drew HO219.out)
                                  have n2_ := Aside0.mk (Kd.R_drew HO224.out)
                                  have n3_ := Aside0.mk (Kd.R_drew HO233.out)
                                  have n4_ := Aside0.mk (Kd.R_drew HO236.out)
                                  have n5_ := Aside0.mk (Kd.R_drew HO241.out)
                                  have n6_ := Aside0.mk (Kd.R_drew HO248.out)
                                  have n7_ := Aside0.mk (below_drew1 HB.out)
                                  clear HO_1
                                  clear HO219
                                  clear HO224
                                  clear HO233
                                  clear HO236
                                  clear HO241
                                  clear HO248
                                  clear HB
                                  have HO_1 := n0_
                                  have HO219 := n1_
                                  have HO224 := n2_
                                  have HO233 := n3_
                                  have HO236 := n4_
                                  have HO241 := n5_
                                  have HO248 := n6_
                                  have HB := n7_
                                  clear n0_ n1_ n2_ n3_ n4_ n5_ n6_ n7_
                                  have p249 : 0 ≤ (3 : Int) := (by omega)
                                  have q249 : 3 < (y243.length : Int) := (by have h_ : (3 : Int) < ((t197.length : Int) : Int) := of_decide_eq_true (by first | (with_reducible assumption) | assumption); first | (have e_ := (Kd.R_reads' HO_1.out).1; omega) | simpa only [Ny243.out, List.length_set] using h_)
                                  have ql249 : ((3 : Int) < ((t197.length : Int) : Int)) = True := eq_true (of_decide_eq_true (by first | (with_reducible assumption) | assumption))
                                  (try have qn249 : (3 < t197.length) = True := eq_true (by have h_ : (3 : Int) < ((t197.length : Int) : Int) := of_decide_eq_true (by first | (with_reducible assumption) | assumption); omega))
                                  obtain ⟨ad249, e249, hx249_0⟩ := Kd.at_int (Kd.R_reads' HO_1.out).2.2 3 p249 q249
                                  obtain rfl : (⟨go27, 0, none⟩ : Addr) = ad249 := (by injection e249)
                                  (first | simp only [add_plain] at hx249_0 | simp only [add_at] at hx249_0 | simp only [Addr.add, Nat.zero_add] at hx249_0 | skip)
                                  have qi249 : (3 < y243.length) = True := eq_true (by omega)
                                  (try rw [show ((3 : Int)).toNat = 3 from rfl] at hx249_0)
                                  replace p249 := eq_true p249
                                  replace q249 := eq_true q249
                                  have p250 : 0 ≤ (4 : Int) := (by omega)
                                  have q250 : 4 < (y243.length : Int) := (by have h_ : (4 : Int) < ((t197.length : Int) : Int) := of_decide_eq_true (by first | (with_reducible assumption) | assumption); first | (have e_ := (Kd.R_reads' HO_1.out).1; omega) | simpa only [Ny243.out, List.length_set] using h_)
                                  have ql250 : ((4 : Int) < ((t197.length : Int) : Int)) = True := eq_true (of_decide_eq_true (by first | (with_reducible assumption) | assumption))
                                  (try have qn250 : (4 < t197.length) = True := eq_true (by have h_ : (4 : Int) < ((t197.length : Int) : Int) := of_decide_eq_true (by first | (with_reducible assumption) | assumption); omega))
                                  obtain ⟨ad250, e250, hx250_0⟩ := Kd.at_int (Kd.R_reads' HO_1.out).2.2 4 p250 q250
                                  obtain rfl : (⟨go27, 0, none⟩ : Addr) = ad250 := (by injection e250)
                                  (first | simp only [add_plain] at hx250_0 | simp only [add_at] at hx250_0 | simp only [Addr.add, Nat.zero_add] at hx250_0 | skip)
                                  have qi250 : (4 < y243.length) = True := eq_true (by omega)
                                  (try rw [show ((4 : Int)).toNat = 4 from rfl] at hx250_0)
                                  replace p250 := eq_true p250
                                  replace q250 := eq_true q250
                                  have p251 : 0 ≤ (5 : Int) := (by omega)
                                  have q251 : 5 < (y243.length : Int) := (by have h_ : (5 : Int) < ((t197.length : Int) : Int) := of_decide_eq_true (by first | (with_reducible assumption) | assumption); first | (have e_ := (Kd.R_reads' HO_1.out).1; omega) | simpa only [Ny243.out, List.length_set] using h_)
                                  have ql251 : ((5 : Int) < ((t197.length : Int) : Int)) = True := eq_true (of_decide_eq_true (by first | (with_reducible assumption) | assumption))
                                  (try have qn251 : (5 < t197.length) = True := eq_true (by have h_ : (5 : Int) < ((t197.length : Int) : Int) := of_decide_eq_true (by first | (with_reducible assumption) | assumption); omega))
                                  obtain ⟨ad251, e251, hx251_0⟩ := Kd.at_int (Kd.R_reads' HO_1.out).2.2 5 p251 q251
                                  obtain rfl : (⟨go27, 0, none⟩ : Addr) = ad251 := (by injection e251)
                                  (first | simp only [add_plain] at hx251_0 | simp only [add_at] at hx251_0 | simp only [Addr.add, Nat.zero_add] at hx251_0 | skip)
                                  have qi251 : (5 < y243.length) = True := eq_true (by omega)
                                  (try rw [show ((5 : Int)).toNat = 5 from rfl] at hx251_0)
                                  replace p251 := eq_true p251
                                  replace q251 := eq_true q251
                                  have p252 : 0 ≤ (6 : Int) := (by omega)
                                  have q252 : 6 < (y243.length : Int) := (by have h_ : (6 : Int) < ((t197.length : Int) : Int) := of_decide_eq_true (by first | (with_reducible assumption) | assumption); first | (have e_ := (Kd.R_reads' HO_1.out).1; omega) | simpa only [Ny243.out, List.length_set] using h_)
                                  have ql252 : ((6 : Int) < ((t197.length : Int) : Int)) = True := eq_true (of_decide_eq_true (by first | (with_reducible assumption) | assumption))
                                  (try have qn252 : (6 < t197.length) = True := eq_true (by have h_ : (6 : Int) < ((t197.length : Int) : Int) := of_decide_eq_true (by first | (with_reducible assumption) | assumption); omega))
                                  obtain ⟨ad252, e252, hx252_0⟩ := Kd.at_int (Kd.R_reads' HO_1.out).2.2 6 p252 q252
                                  obtain rfl : (⟨go27, 0, none⟩ : Addr) = ad252 := (by injection e252)
                                  (first | simp only [add_plain] at hx252_0 | simp only [add_at] at hx252_0 | simp only [Addr.add, Nat.zero_add] at hx252_0 | skip)
                                  have qi252 : (6 < y243.length) = True := eq_true (by omega)
                                  (try rw [show ((6 : Int)).toNat = 6 from rfl] at hx252_0)
                                  replace p252 := eq_true p252
                                  replace q252 := eq_true q252
                                  refine start_ (n := 51) (S := fun w' => w'.cell? ⟨go27, 3, none⟩ = some (.int .u8 (rd y243 3)) ∧ w'.cell? ⟨go27, 4, none⟩ = some (.int .u8 (rd y243 4)) ∧ w'.cell? ⟨go27, 5, none⟩ = some (.int .u8 (rd y243 5)) ∧ w'.cell? ⟨go27, 6, none⟩ = some (.int .u8 (rd y243 6))) (ds := []) #[false, false, false, false, false, false, false, false, false, false, false, false, false, false, false, false, false, false, false, false, false, false, false, false, false, false, false, false, false, false, false, false, false, false, false, false, false, false, false, false, false, false, false, false, false, false, false, false, false, false, false] (by kernel_rfl) rfl rfl ⟨hx249_0, hx250_0, hx251_0, hx252_0⟩ (fun hHeld => ?_); refine with_tabW scriptoriumlaw04_works_in.tab10 scriptoriumlaw04_works_in.bits10 (fun HT_ HW_ => ?_)
                                  generalize w53.drew = w54 at HO_1 HO219 HO224 HO233 HO236 HO241 HO248 HB hx249_0 hx250_0 hx251_0 hx252_0 hHeld ⊢
                                  refine pure_ (i := 0) (N := some 72) (v := ?_) (a' := ?_) #[true, false, false, false, false, false, false, false, false, false, false, false, false, false, false, false, false, false, false, false, false, false, false, false, false, false, false, false, false, false, false, false, false, false, false, false, false, false, false, false, false, false, false, false, false, false, false, false, false, false, false] rfl rfl (any_of HT_.out (by kernel_rfl)) (fun _ _ _ h => h) (Or.inl ⟨by rfl, ?_⟩) ?_ ?_
                                  rotate_left
                                  · intro w'
                                    go_simp
                                    with_reducible rfl
                                  rotate_left
                                  · simp only [Act.put, List.setIfInBounds_toArray, List.set_cons_zero, List.set_cons_succ, i64_w, i32_w]
                                    rfl
                                  refine pure_ (i := 1) (N := some 73) (v := ?_) (a' := ?_) #[true, true, false, false, false, false, false, false, false, false, false, false, false, false, false, false, false, false, false, false, false, false, false, false, false, false, false, false, false, false, false, false, false, false, false, false, false, false, false, false, false, false, false, false, false, false, false, false, false, false, false] rfl rfl (any_of HT_.out (by kernel_rfl)) (fun _ _ _ h => h) (Or.inl ⟨by rfl, ?_⟩) ?_ ?_
                                  rotate_left
                                  · intro w'
                                    go_simp
                                    with_reducible rfl
                                  rotate_left
                                  · simp only [Act.put, List.setIfInBounds_toArray, List.set_cons_zero, List.set_cons_succ, i64_w, i32_w]
                                    rfl
                                  refine pure_ (i := 5) (N := some 77) (v := ?_) (a' := ?_) #[true, true, false, false, false, true, false, false, false, false, false, false, false, false, false, false, false, false, false, false, false, false, false, false, false, false, false, false, false, false, false, false, false, false, false, false, false, false, false, false, false, false, false, false, false, false, false, false, false, false, false] rfl rfl (any_of HT_.out (by kernel_rfl)) (fun _ _ _ h => h) (Or.inl ⟨by rfl, ?_⟩) ?_ ?_
                                  rotate_left
                                  · intro w'
                                    go_simp
                                    with_reducible rfl
                                  rotate_left
                                  · simp only [Act.put, List.setIfInBounds_toArray, List.set_cons_zero, List.set_cons_succ, i64_w, i32_w]
                                    rfl
                                  refine pure_ (i := 6) (N := some 78) (v := ?_) (a' := ?_) #[true, true, false, false, false, true, true, false, false, false, false, false, false, false, false, false, false, false, false, false, false, false, false, false, false, false, false, false, false, false, false, false, false, false, false, false, false, false, false, false, false, false, false, false, false, false, false, false, false, false, false] rfl rfl (any_of HT_.out (by kernel_rfl)) (fun _ _ _ h => h) (Or.inl ⟨by rfl, ?_⟩) ?_ ?_
                                  rotate_left
                                  · intro w'
                                    go_simp
                                    with_reducible rfl
                                  rotate_left
                                  · simp only [Act.put, List.setIfInBounds_toArray, List.set_cons_zero, List.set_cons_succ, i64_w, i32_w]
                                    rfl
                                  refine pure_ (i := 11) (N := some 83) (v := ?_) (a' := ?_) #[true, true, false, false, false, true, true, false, false, false, false, true, false, false, false, false, false, false, false, false, false, false, false, false, false, false, false, false, false, false, false, false, false, false, false, false, false, false, false, false, false, false, false, false, false, false, false, false, false, false, false] rfl rfl (any_of HT_.out (by kernel_rfl)) (fun _ _ _ h => h) (Or.inl ⟨by rfl, ?_⟩) ?_ ?_
                                  rotate_left
                                  · intro w'
                                    go_simp
                                    with_reducible rfl
                                  rotate_left
                                  · simp only [Act.put, List.setIfInBounds_toArray, List.set_cons_zero, List.set_cons_succ, i64_w, i32_w]
                                    rfl
                                  refine pure_ (i := 12) (N := some 84) (v := ?_) (a' := ?_) #[true, true, false, false, false, true, true, false, false, false, false, true, true, false, false, false, false, false, false, false, false, false, false, false, false, false, false, false, false, false, false, false, false, false, false, false, false, false, false, false, false, false, false, false, false, false, false, false, false, false, false] rfl rfl (any_of HT_.out (by kernel_rfl)) (fun _ _ _ h => h) (Or.inl ⟨by rfl, ?_⟩) ?_ ?_
                                  rotate_left
                                  · intro w'
                                    go_simp
                                    with_reducible rfl
                                  rotate_left
                                  · simp only [Act.put, List.setIfInBounds_toArray, List.set_cons_zero, List.set_cons_succ, i64_w, i32_w]
                                    rfl
                                  refine pure_ (i := 17) (N := some 89) (v := ?_) (a' := ?_) #[true, true, false, false, false, true, true, false, false, false, false, true, true, false, false, false, false, true, false, false, false, false, false, false, false, false, false, false, false, false, false, false, false, false, false, false, false, false, false, false, false, false, false, false, false, false, false, false, false, false, false] rfl rfl (any_of HT_.out (by kernel_rfl)) (fun _ _ _ h => h) (Or.inl ⟨by rfl, ?_⟩) ?_ ?_
                                  rotate_left
                                  · intro w'
                                    go_simp
                                    with_reducible rfl
                                  rotate_left
                                  · simp only [Act.put, List.setIfInBounds_toArray, List.set_cons_zero, List.set_cons_succ, i64_w, i32_w]
                                    rfl
                                  refine pure_ (i := 18) (N := some 90) (v := ?_) (a' := ?_) #[true, true, false, false, false, true, true, false, false, false, false, true, true, false, false, false, false, true, true, false, false, false, false, false, false, false, false, false, false, false, false, false, false, false, false, false, false, false, false, false, false, false, false, false, false, false, false, false, false, false, false] rfl rfl (any_of HT_.out (by kernel_rfl)) (fun _ _ _ h => h) (Or.inl ⟨by rfl, ?_⟩) ?_ ?_
                                  rotate_left
                                  · intro w'
                                    go_simp
                                    with_reducible rfl
                                  rotate_left
                                  · simp only [Act.put, List.setIfInBounds_toArray, List.set_cons_zero, List.set_cons_succ, i64_w, i32_w]
                                    rfl
                                  refine pure_ (i := 23) (N := some 95) (v := ?_) (a' := ?_) #[true, true, false, false, false, true, true, false, false, false, false, true, true, false, false, false, false, true, true, false, false, false, false, true, false, false, false, false, false, false, false, false, false, false, false, false, false, false, false, false, false, false, false, false, false, false, false, false, false, false, false] rfl rfl (any_of HT_.out (by kernel_rfl)) (fun _ _ _ h => h) (Or.inl ⟨by rfl, ?_⟩) ?_ ?_
                                  rotate_left
                                  · intro w'
                                    go_simp
                                    with_reducible rfl
                                  rotate_left
                                  · simp only [Act.put, List.setIfInBounds_toArray, List.set_cons_zero, List.set_cons_succ, i64_w, i32_w]
                                    rfl
                                  refine take_ (i := 2) (N := some 74) (v := ?_) (a' := ?_) #[true, true, true, false, false, true, true, false, false, false, false, true, true, false, false, false, false, true, true, false, false, false, false, true, false, false, false, false, false, false, false, false, false, false, false, false, false, false, false, false, false, false, false, false, false, false, false, false, false, false, false] rfl rfl (take_ofW HT_.out HW_.out (by kernel_rfl)) (fun _ _ _ h => h) (Or.inl ⟨by rfl, ?_⟩) hHeld ?_ ?_
                                  rotate_left
                                  · rintro w' ⟨s0, s1, s2, s3⟩
                                    go_simp
                                    with_reducible rfl
                                  rotate_left
                                  · simp only [Act.put, List.setIfInBounds_toArray, List.set_cons_zero, List.set_cons_succ, i64_w, i32_w]
                                    rfl
                                  refine pure_ (i := 3) (N := some 75) (v := ?_) (a' := ?_) #[true, true, true, true, false, true, true, false, false, false, false, true, true, false, false, false, false, true, true, false, false, false, false, true, false, false, false, false, false, false, false, false, false, false, false, false, false, false, false, false, false, false, false, false, false, false, false, false, false, false, false] rfl rfl (any_of HT_.out (by kernel_rfl)) (fun _ _ _ h => h) (Or.inl ⟨by rfl, ?_⟩) ?_ ?_
                                  rotate_left
                                  · intro w'
                                    go_simp
                                    with_reducible rfl
                                  rotate_left
                                  · simp only [Act.put, List.setIfInBounds_toArray, List.set_cons_zero, List.set_cons_succ, i64_w, i32_w]
                                    rfl
                                  refine pure_ (i := 4) (N := some 76) (v := ?_) (a' := ?_) #[true, true, true, true, true, true, true, false, false, false, false, true, true, false, false, false, false, true, true, false, false, false, false, true, false, false, false, false, false, false, false, false, false, false, false, false, false, false, false, false, false, false, false, false, false, false, false, false, false, false, false] rfl rfl (any_of HT_.out (by kernel_rfl)) (fun _ _ _ h => h) (Or.inl ⟨by rfl, ?_⟩) ?_ ?_
                                  rotate_left
                                  · intro w'
                                    go_simp
                                    with_reducible rfl
                                  rotate_left
                                  · simp only [Act.put, List.setIfInBounds_toArray, List.set_cons_zero, List.set_cons_succ, i64_w, i32_w]
                                    rfl
                                  refine take_ (i := 7) (N := some 79) (v := ?_) (a' := ?_) #[true, true, true, true, true, true, true, true, false, false, false, true, true, false, false, false, false, true, true, false, false, false, false, true, false, false, false, false, false, false, false, false, false, false, false, false, false, false, false, false, false, false, false, false, false, false, false, false, false, false, false] rfl rfl (take_ofW HT_.out HW_.out (by kernel_rfl)) (fun _ _ _ h => h) (Or.inl ⟨by rfl, ?_⟩) hHeld ?_ ?_
                                  rotate_left
                                  · rintro w' ⟨s0, s1, s2, s3⟩
                                    go_simp
                                    with_reducible rfl
                                  rotate_left
                                  · simp only [Act.put, List.setIfInBounds_toArray, List.set_cons_zero, List.set_cons_succ, i64_w, i32_w]
                                    rfl
                                  refine pure_ (i := 8) (N := some 80) (v := ?_) (a' := ?_) #[true, true, true, true, true, true, true, true, true, false, false, true, true, false, false, false, false, true, true, false, false, false, false, true, false, false, false, false, false, false, false, false, false, false, false, false, false, false, false, false, false, false, false, false, false, false, false, false, false, false, false] rfl rfl (any_of HT_.out (by kernel_rfl)) (fun _ _ _ h => h) (Or.inl ⟨by rfl, ?_⟩) ?_ ?_
                                  rotate_left
                                  · intro w'
                                    go_simp
                                    with_reducible rfl
                                  rotate_left
                                  · simp only [Act.put, List.setIfInBounds_toArray, List.set_cons_zero, List.set_cons_succ, i64_w, i32_w]
                                    rfl
                                  refine pure_ (i := 9) (N := some 81) (v := ?_) (a' := ?_) #[true, true, true, true, true, true, true, true, true, true, false, true, true, false, false, false, false, true, true, false, false, false, false, true, false, false, false, false, false, false, false, false, false, false, false, false, false, false, false, false, false, false, false, false, false, false, false, false, false, false, false] rfl rfl (any_of HT_.out (by kernel_rfl)) (fun _ _ _ h => h) (Or.inl ⟨by rfl, ?_⟩) ?_ ?_
                                  rotate_left
                                  · intro w'
                                    go_simp
                                    with_reducible rfl
                                  rotate_left
                                  · simp only [Act.put, List.setIfInBounds_toArray, List.set_cons_zero, List.set_cons_succ, i64_w, i32_w]
                                    rfl
                                  refine pure_ (i := 10) (N := some 82) (v := ?_) (a' := ?_) #[true, true, true, true, true, true, true, true, true, true, true, true, true, false, false, false, false, true, true, false, false, false, false, true, false, false, false, false, false, false, false, false, false, false, false, false, false, false, false, false, false, false, false, false, false, false, false, false, false, false, false] rfl rfl (any_of HT_.out (by kernel_rfl)) (fun _ _ _ h => h) (Or.inl ⟨by rfl, ?_⟩) ?_ ?_
                                  rotate_left
                                  · intro w'
                                    go_simp
                                    with_reducible rfl
                                  rotate_left
                                  · simp only [Act.put, List.setIfInBounds_toArray, List.set_cons_zero, List.set_cons_succ, i64_w, i32_w]
                                    rfl
                                  refine take_ (i := 13) (N := some 85) (v := ?_) (a' := ?_) #[true, true, true, true, true, true, true, true, true, true, true, true, true, true, false, false, false, true, true, false, false, false, false, true, false, false, false, false, false, false, false, false, false, false, false, false, false, false, false, false, false, false, false, false, false, false, false, false, false, false, false] rfl rfl (take_ofW HT_.out HW_.out (by kernel_rfl)) (fun _ _ _ h => h) (Or.inl ⟨by rfl, ?_⟩) hHeld ?_ ?_
                                  rotate_left
                                  · rintro w' ⟨s0, s1, s2, s3⟩
                                    go_simp
                                    with_reducible rfl
                                  rotate_left
                                  · simp only [Act.put, List.setIfInBounds_toArray, List.set_cons_zero, List.set_cons_succ, i64_w, i32_w]
                                    rfl
                                  refine pure_ (i := 14) (N := some 86) (v := ?_) (a' := ?_) #[true, true, true, true, true, true, true, true, true, true, true, true, true, true, true, false, false, true, true, false, false, false, false, true, false, false, false, false, false, false, false, false, false, false, false, false, false, false, false, false, false, false, false, false, false, false, false, false, false, false, false] rfl rfl (any_of HT_.out (by kernel_rfl)) (fun _ _ _ h => h) (Or.inl ⟨by rfl, ?_⟩) ?_ ?_
                                  rotate_left
                                  · intro w'
                                    go_simp
                                    with_reducible rfl
                                  rotate_left
                                  · simp only [Act.put, List.setIfInBounds_toArray, List.set_cons_zero, List.set_cons_succ, i64_w, i32_w]
                                    rfl
                                  refine pure_ (i := 15) (N := some 87) (v := ?_) (a' := ?_) #[true, true, true, true, true, true, true, true, true, true, true, true, true, true, true, true, false, true, true, false, false, false, false, true, false, false, false, false, false, false, false, false, false, false, false, false, false, false, false, false, false, false, false, false, false, false, false, false, false, false, false] rfl rfl (any_of HT_.out (by kernel_rfl)) (fun _ _ _ h => h) (Or.inl ⟨by rfl, ?_⟩) ?_ ?_
                                  rotate_left
                                  · intro w'
                                    go_simp
                                    with_reducible rfl
                                  rotate_left
                                  · simp only [Act.put, List.setIfInBounds_toArray, List.set_cons_zero, List.set_cons_succ, i64_w, i32_w]
                                    rfl
                                  refine pure_ (i := 16) (N := some 88) (v := ?_) (a' := ?_) #[true, true, true, true, true, true, true, true, true, true, true, true, true, true, true, true, true, true, true, false, false, false, false, true, false, false, false, false, false, false, false, false, false, false, false, false, false, false, false, false, false, false, false, false, false, false, false, false, false, false, false] rfl rfl (any_of HT_.out (by kernel_rfl)) (fun _ _ _ h => h) (Or.inl ⟨by rfl, ?_⟩) ?_ ?_
                                  rotate_left
                                  · intro w'
                                    go_simp
                                    with_reducible rfl
                                  rotate_left
                                  · simp only [Act.put, List.setIfInBounds_toArray, List.set_cons_zero, List.set_cons_succ, i64_w, i32_w]
                                    rfl
                                  refine take_ (i := 19) (N := some 91) (v := ?_) (a' := ?_) #[true, true, true, true, true, true, true, true, true, true, true, true, true, true, true, true, true, true, true, true, false, false, false, true, false, false, false, false, false, false, false, false, false, false, false, false, false, false, false, false, false, false, false, false, false, false, false, false, false, false, false] rfl rfl (take_ofW HT_.out HW_.out (by kernel_rfl)) (fun _ _ _ h => h) (Or.inl ⟨by rfl, ?_⟩) hHeld ?_ ?_
                                  rotate_left
                                  · rintro w' ⟨s0, s1, s2, s3⟩
                                    go_simp
                                    with_reducible rfl
                                  rotate_left
                                  · simp only [Act.put, List.setIfInBounds_toArray, List.set_cons_zero, List.set_cons_succ, i64_w, i32_w]
                                    rfl
                                  refine pure_ (i := 20) (N := some 92) (v := ?_) (a' := ?_) #[true, true, true, true, true, true, true, true, true, true, true, true, true, true, true, true, true, true, true, true, true, false, false, true, false, false, false, false, false, false, false, false, false, false, false, false, false, false, false, false, false, false, false, false, false, false, false, false, false, false, false] rfl rfl (any_of HT_.out (by kernel_rfl)) (fun _ _ _ h => h) (Or.inl ⟨by rfl, ?_⟩) ?_ ?_
                                  rotate_left
                                  · intro w'
                                    go_simp
                                    with_reducible rfl
                                  rotate_left
                                  · simp only [Act.put, List.setIfInBounds_toArray, List.set_cons_zero, List.set_cons_succ, i64_w, i32_w]
                                    rfl
                                  refine pure_ (i := 21) (N := some 93) (v := ?_) (a' := ?_) #[true, true, true, true, true, true, true, true, true, true, true, true, true, true, true, true, true, true, true, true, true, true, false, true, false, false, false, false, false, false, false, false, false, false, false, false, false, false, false, false, false, false, false, false, false, false, false, false, false, false, false] rfl rfl (any_of HT_.out (by kernel_rfl)) (fun _ _ _ h => h) (Or.inl ⟨by rfl, ?_⟩) ?_ ?_
                                  rotate_left
                                  · intro w'
                                    go_simp
                                    with_reducible rfl
                                  rotate_left
                                  · simp only [Act.put, List.setIfInBounds_toArray, List.set_cons_zero, List.set_cons_succ, i64_w, i32_w]
                                    rfl
                                  refine pure_ (i := 22) (N := some 94) (v := ?_) (a' := ?_) #[true, true, true, true, true, true, true, true, true, true, true, true, true, true, true, true, true, true, true, true, true, true, true, true, false, false, false, false, false, false, false, false, false, false, false, false, false, false, false, false, false, false, false, false, false, false, false, false, false, false, false] rfl rfl (any_of HT_.out (by kernel_rfl)) (fun _ _ _ h => h) (Or.inl ⟨by rfl, ?_⟩) ?_ ?_
                                  rotate_left
                                  · intro w'
                                    go_simp
                                    with_reducible rfl
                                  rotate_left
                                  · simp only [Act.put, List.setIfInBounds_toArray, List.set_cons_zero, List.set_cons_succ, i64_w, i32_w]
                                    rfl
                                  refine pure_ (i := 24) (N := some 96) (v := ?_) (a' := ?_) #[true, true, true, true, true, true, true, true, true, true, true, true, true, true, true, true, true, true, true, true, true, true, true, true, true, false, false, false, false, false, false, false, false, false, false, false, false, false, false, false, false, false, false, false, false, false, false, false, false, false, false] rfl rfl (any_of HT_.out (by kernel_rfl)) (fun _ _ _ h => h) (Or.inl ⟨by rfl, ?_⟩) ?_ ?_
                                  rotate_left
                                  · intro w'
                                    go_simp
                                    with_reducible rfl
                                  rotate_left
                                  · simp only [Act.put, List.setIfInBounds_toArray, List.set_cons_zero, List.set_cons_succ, i64_w, i32_w]
                                    rfl
                                  refine pure_ (i := 25) (N := some 97) (v := ?_) (a' := ?_) #[true, true, true, true, true, true, true, true, true, true, true, true, true, true, true, true, true, true, true, true, true, true, true, true, true, true, false, false, false, false, false, false, false, false, false, false, false, false, false, false, false, false, false, false, false, false, false, false, false, false, false] rfl rfl (any_of HT_.out (by kernel_rfl)) (fun _ _ _ h => h) (Or.inl ⟨by rfl, ?_⟩) ?_ ?_
                                  rotate_left
                                  · intro w'
                                    go_simp
                                    with_reducible rfl
                                  rotate_left
                                  · simp only [Act.put, List.setIfInBounds_toArray, List.set_cons_zero, List.set_cons_succ, i64_w, i32_w]
                                    rfl
                                  refine pure_ (i := 26) (N := some 98) (v := ?_) (a' := ?_) #[true, true, true, true, true, true, true, true, true, true, true, true, true, true, true, true, true, true, true, true, true, true, true, true, true, true, true, false, false, false, false, false, false, false, false, false, false, false, false, false, false, false, false, false, false, false, false, false, false, false, false] rfl rfl (any_of HT_.out (by kernel_rfl)) (fun _ _ _ h => h) (Or.inl ⟨by rfl, ?_⟩) ?_ ?_
                                  rotate_left
                                  · intro w'
                                    go_simp
                                    with_reducible rfl
                                  rotate_left
                                  · simp only [Act.put, List.setIfInBounds_toArray, List.set_cons_zero, List.set_cons_succ, i64_w, i32_w]
                                    rfl
                                  refine pure_ (i := 27) (N := some 99) (v := ?_) (a' := ?_) #[true, true, true, true, true, true, true, true, true, true, true, true, true, true, true, true, true, true, true, true, true, true, true, true, true, true, true, true, false, false, false, false, false, false, false, false, false, false, false, false, false, false, false, false, false, false, false, false, false, false, false] rfl rfl (any_of HT_.out (by kernel_rfl)) (fun _ _ _ h => h) (Or.inl ⟨by rfl, ?_⟩) ?_ ?_
                                  rotate_left
                                  · intro w'
                                    go_simp
                                    with_reducible rfl
                                  rotate_left
                                  · simp only [Act.put, List.setIfInBounds_toArray, List.set_cons_zero, List.set_cons_succ, i64_w, i32_w]
                                    rfl
                                  refine pure_ (i := 28) (N := some 100) (v := ?_) (a' := ?_) #[true, true, true, true, true, true, true, true, true, true, true, true, true, true, true, true, true, true, true, true, true, true, true, true, true, true, true, true, true, false, false, false, false, false, false, false, false, false, false, false, false, false, false, false, false, false, false, false, false, false, false] rfl rfl (any_of HT_.out (by kernel_rfl)) (fun _ _ _ h => h) (Or.inl ⟨by rfl, ?_⟩) ?_ ?_
                                  rotate_left
                                  · intro w'
                                    go_simp
                                    with_reducible rfl
                                  rotate_left
                                  · simp only [Act.put, List.setIfInBounds_toArray, List.set_cons_zero, List.set_cons_succ, i64_w, i32_w]
                                    rfl
                                  refine pure_ (i := 29) (N := some 101) (v := ?_) (a' := ?_) #[true, true, true, true, true, true, true, true, true, true, true, true, true, true, true, true, true, true, true, true, true, true, true, true, true, true, true, true, true, true, false, false, false, false, false, false, false, false, false, false, false, false, false, false, false, false, false, false, false, false, false] rfl rfl (any_of HT_.out (by kernel_rfl)) (fun _ _ _ h => h) (Or.inl ⟨by rfl, ?_⟩) ?_ ?_
                                  rotate_left
                                  · intro w'
                                    go_simp
                                    with_reducible rfl
                                  rotate_left
                                  · simp only [Act.put, List.setIfInBounds_toArray, List.set_cons_zero, List.set_cons_succ, i64_w, i32_w]
                                    rfl
                                  refine pure_ (i := 30) (N := some 102) (v := ?_) (a' := ?_) #[true, true, true, true, true, true, true, true, true, true, true, true, true, true, true, true, true, true, true, true, true, true, true, true, true, true, true, true, true, true, true, false, false, false, false, false, false, false, false, false, false, false, false, false, false, false, false, false, false, false, false] rfl rfl (any_of HT_.out (by kernel_rfl)) (fun _ _ _ h => h) (Or.inl ⟨by rfl, ?_⟩) ?_ ?_
                                  rotate_left
                                  · intro w'
                                    go_simp
                                    with_reducible rfl
                                  rotate_left
                                  · simp only [Act.put, List.setIfInBounds_toArray, List.set_cons_zero, List.set_cons_succ, i64_w, i32_w]
                                    rfl
                                  refine one_ (i := 31) (N := some 103) #[true, true, true, true, true, true, true, true, true, true, true, true, true, true, true, true, true, true, true, true, true, true, true, true, true, true, true, true, true, true, true, true, false, false, false, false, false, false, false, false, false, false, false, false, false, false, false, false, false, false, false] rfl rfl (one_of HT_.out (by kernel_rfl)) (by decide) (fun K hK => ?_)
                                  refine Kd.R_lit_step (Kd.int .u8) _ 5 ?hg (N := 103) ?hd (xs := ([97] : List Int)) (inner := [.int .u8 97]) (ok := fun _ => True) (okp := fun _ => True) ?hr ?hp (fun _ hk => hk) trivial (Below.refl _ _) (Nat.le_refl _) (by simp) ?_; (case hd => rfl); (case hg => rfl); (case hr => first | (go_simp; done) | (go_simp; rfl)); (case hp => exact (Reps.one (show Kd.M (Kd.int .u8) _ _ _ 97 [.int .u8 97] from rfl) (Reps.none _ _)))
                                  intro v254 w55 ho56 hb hg_ hnew_
                                  have HS0_ := (hb.cell (World.block_lt_of_cell? _ _ (hHeld.1))).trans (hHeld.1)
                                  have HS1_ := (hb.cell (World.block_lt_of_cell? _ _ (hHeld.2.1))).trans (hHeld.2.1)
                                  have HS2_ := (hb.cell (World.block_lt_of_cell? _ _ (hHeld.2.2.1))).trans (hHeld.2.2.1)
                                  have HS3_ := (hb.cell (World.block_lt_of_cell? _ _ (hHeld.2.2.2))).trans (hHeld.2.2.2)
                                  clear hg_ hnew_
                                  (first | rw [← Ny253.out] at ho56 | (simp only [Int.reduceToNat] at ho56; rw [← Ny253.out] at ho56))
                                  have n0_ := Aside0.mk (Kd.R_elder' (by (with_reducible repeat (first | apply Kd.R_alloc | apply Kd.R_drewN | apply Kd.R_drew)); exact HO_1.out) (Kd.R_base ho56) hb)
                                  have n1_ := Aside0.mk (Kd.R_elder' (by (with_reducible repeat (first | apply Kd.R_alloc | apply Kd.R_drewN | apply Kd.R_drew)); exact HO219.out) (Kd.R_base ho56) hb)
                                  have n2_ := Aside0.mk (Kd.R_elder' (by (with_reducible repeat (first | apply Kd.R_alloc | apply Kd.R_drewN | apply Kd.R_drew)); exact HO224.out) (Kd.R_base ho56) hb)
                                  have n3_ := Aside0.mk (Kd.R_elder' (by (with_reducible repeat (first | apply Kd.R_alloc | apply Kd.R_drewN | apply Kd.R_drew)); exact HO233.out) (Kd.R_base ho56) hb)
                                  have n4_ := Aside0.mk (Kd.R_elder' (by (with_reducible repeat (first | apply Kd.R_alloc | apply Kd.R_drewN | apply Kd.R_drew)); exact HO236.out) (Kd.R_base ho56) hb)
                                  have n5_ := Aside0.mk (Kd.R_elder' (by (with_reducible repeat (first | apply Kd.R_alloc | apply Kd.R_drewN | apply Kd.R_drew)); exact HO241.out) (Kd.R_base ho56) hb)
                                  have n6_ := Aside0.mk (Kd.R_elder' (by (with_reducible repeat (first | apply Kd.R_alloc | apply Kd.R_drewN | apply Kd.R_drew)); exact HO248.out) (Kd.R_base ho56) hb)
                                  have n7_ := Aside0.mk (Kd.R_lower (Kd.R_new' (Kd.R_new' (Kd.R_new' (Kd.R_new' (Kd.R_new' (Kd.R_new' (Kd.R_new' ho56 (Kd.R_lt (by (with_reducible repeat (first | apply Kd.R_alloc | apply Kd.R_drewN | apply Kd.R_drew)); exact HO_1.out))) (Kd.R_lt (by (with_reducible repeat (first | apply Kd.R_alloc | apply Kd.R_drewN | apply Kd.R_drew)); exact HO219.out))) (Kd.R_lt (by (with_reducible repeat (first | apply Kd.R_alloc | apply Kd.R_drewN | apply Kd.R_drew)); exact HO224.out))) (Kd.R_lt (by (with_reducible repeat (first | apply Kd.R_alloc | apply Kd.R_drewN | apply Kd.R_drew)); exact HO233.out))) (Kd.R_lt (by (with_reducible repeat (first | apply Kd.R_alloc | apply Kd.R_drewN | apply Kd.R_drew)); exact HO236.out))) (Kd.R_lt (by (with_reducible repeat (first | apply Kd.R_alloc | apply Kd.R_drewN | apply Kd.R_drew)); exact HO241.out))) (Kd.R_lt (by (with_reducible repeat (first | apply Kd.R_alloc | apply Kd.R_drewN | apply Kd.R_drew)); exact HO248.out))) (below_size (by repeat (first | (with_reducible first | exact HB.out | apply below_alloc | apply pw_below_drewN | apply below_drew1) | exact HB.out))))
                                  have n8_ := Aside0.mk (below_step (by repeat (first | (with_reducible first | exact HB.out | apply below_alloc | apply pw_below_drewN | apply below_drew1) | exact HB.out)) hb)
                                  clear HO_1
                                  clear HO219
                                  clear HO224
                                  clear HO233
                                  clear HO236
                                  clear HO241
                                  clear HO248
                                  clear HB
                                  have HO_1 := n0_
                                  have HO219 := n1_
                                  have HO224 := n2_
                                  have HO233 := n3_
                                  have HO236 := n4_
                                  have HO241 := n5_
                                  have HO248 := n6_
                                  have HO255 := n7_
                                  have HB := n8_
                                  clear n0_ n1_ n2_ n3_ n4_ n5_ n6_ n7_ n8_
                                  clear hb ho56
                                  obtain ⟨Ao57, co57, eo57⟩ := Kd.R_slice HO224.out
                                  (first | subst eo57 | (injection eo57 with f1_ f2_ f3_; have f4_ := f1_.symm; have f5_ := f3_.symm; clear f1_ f2_ f3_; subst f4_; subst f5_))
                                  obtain ⟨Ao58, co58, eo58⟩ := Kd.R_slice HO255.out
                                  (first | subst eo58 | (injection eo58 with f1_ f2_ f3_; have f4_ := f1_.symm; have f5_ := f3_.symm; clear f1_ f2_ f3_; subst f4_; subst f5_))
                                  refine hK.out _ _ ⟨HS0_, HS1_, HS2_, HS3_⟩ (fun hHeld => ?_)
                                  clear hK K
                                  refine norm_ (a' := ?_) ?_ ?_
                                  rotate_left
                                  · show Act.put _ (some 103) _ = _
                                    simp only [Act.put, List.setIfInBounds_toArray, List.set_cons_zero, List.set_cons_succ, i64_w, i32_w]
                                    rfl
                                  refine one_ (i := 32) (N := some 104) #[true, true, true, true, true, true, true, true, true, true, true, true, true, true, true, true, true, true, true, true, true, true, true, true, true, true, true, true, true, true, true, true, true, false, false, false, false, false, false, false, false, false, false, false, false, false, false, false, false, false, false] rfl rfl (one_of HT_.out (by kernel_rfl)) (by decide) (fun K hK => ?_)
                                  refine goes_ Try.func15 (by kernel_rfl) rfl #[.slice Ao57 t220.length co57, .slice Ao58 y253.length co58] (by rfl) rfl rfl (by (try simp only [List.map_toArray, List.map_cons, List.map_nil]); first | done | rfl | (simp only [List.length_drop, List.length_take]; rfl)) ?_
                                  with_reducible refine (scriptoriumref00_EqBytes.calls kj1 _ _ t220 _ _ y253 true _ ?side1 ?side2 ?side3 ?side4 A34.out).mono ?_
                                  (case side1 => repeat (first | exact (Kd.R_reads' HO224.out).2.2 | (with_reducible refine Kd.C_alloc ?_ _) | (with_reducible refine Kd.C_drewN ?_ _) | (with_reducible refine Kd.C_drew ?_)))
                                  (case side2 => exact (Kd.R_reads' HO224.out).2.1)
                                  (case side3 => repeat (first | exact (Kd.R_reads' HO255.out).2.2 | (with_reducible refine Kd.C_alloc ?_ _) | (with_reducible refine Kd.C_drewN ?_ _) | (with_reducible refine Kd.C_drew ?_)))
                                  (case side4 => exact (Kd.R_reads' HO255.out).2.1)
                                  rintro e w' ⟨rfl, ⟨nd, rfl⟩⟩
                                  refine ⟨_, rfl, ?_⟩
                                  refine hK.out _ _ ⟨hHeld.1, hHeld.2.1, hHeld.2.2.1, hHeld.2.2.2⟩ (fun hHeld => ?_)
                                  clear hK K
                                  refine norm_ (a' := ?_) ?_ ?_
                                  rotate_left
                                  · show Act.put _ (some 104) _ = _
                                    simp only [Act.put, List.setIfInBounds_toArray, List.set_cons_zero, List.set_cons_succ, i64_w, i32_w]
                                    rfl
                                  refine pure_ (i := 33) (N := some 105) (v := ?_) (a' := ?_) #[true, true, true, true, true, true, true, true, true, true, true, true, true, true, true, true, true, true, true, true, true, true, true, true, true, true, true, true, true, true, true, true, true, true, false, false, false, false, false, false, false, false, false, false, false, false, false, false, false, false, false] rfl rfl (any_of HT_.out (by kernel_rfl)) (fun _ _ _ h => h) (Or.inl ⟨by rfl, ?_⟩) ?_ ?_
                                  rotate_left
                                  · intro w'
                                    go_simp
                                    with_reducible rfl
                                  rotate_left
                                  · simp only [Act.put, List.setIfInBounds_toArray, List.set_cons_zero, List.set_cons_succ, i64_w, i32_w]
                                    rfl
                                  refine pure_ (i := 34) (N := some 106) (v := ?_) (a' := ?_) #[true, true, true, true, true, true, true, true, true, true, true, true, true, true, true, true, true, true, true, true, true, true, true, true, true, true, true, true, true, true, true, true, true, true, true, false, false, false, false, false, false, false, false, false, false, false, false, false, false, false, false] rfl rfl (any_of HT_.out (by kernel_rfl)) (fun _ _ _ h => h) (Or.inl ⟨by rfl, ?_⟩) ?_ ?_
                                  rotate_left
                                  · intro w'
                                    go_simp
                                    with_reducible rfl
                                  rotate_left
                                  · simp only [Act.put, List.setIfInBounds_toArray, List.set_cons_zero, List.set_cons_succ, i64_w, i32_w]
                                    rfl
                                  refine pure_ (i := 35) (N := some 107) (v := ?_) (a' := ?_) #[true, true, true, true, true, true, true, true, true, true, true, true, true, true, true, true, true, true, true, true, true, true, true, true, true, true, true, true, true, true, true, true, true, true, true, true, false, false, false, false, false, false, false, false, false, false, false, false, false, false, false] rfl rfl (any_of HT_.out (by kernel_rfl)) (fun _ _ _ h => h) (Or.inl ⟨by rfl, ?_⟩) ?_ ?_
                                  rotate_left
                                  · intro w'
                                    go_simp
                                    with_reducible rfl
                                  rotate_left
                                  · simp only [Act.put, List.setIfInBounds_toArray, List.set_cons_zero, List.set_cons_succ, i64_w, i32_w]
                                    rfl
                                  refine pure_ (i := 36) (N := some 108) (v := ?_) (a' := ?_) #[true, true, true, true, true, true, true, true, true, true, true, true, true, true, true, true, true, true, true, true, true, true, true, true, true, true, true, true, true, true, true, true, true, true, true, true, true, false, false, false, false, false, false, false, false, false, false, false, false, false, false] rfl rfl (any_of HT_.out (by kernel_rfl)) (fun _ _ _ h => h) (Or.inl ⟨by rfl, ?_⟩) ?_ ?_
                                  rotate_left
                                  · intro w'
                                    go_simp
                                    with_reducible rfl
                                  rotate_left
                                  · simp only [Act.put, List.setIfInBounds_toArray, List.set_cons_zero, List.set_cons_succ, i64_w, i32_w]
                                    rfl
                                  refine pure_ (i := 37) (N := some 109) (v := ?_) (a' := ?_) #[true, true, true, true, true, true, true, true, true, true, true, true, true, true, true, true, true, true, true, true, true, true, true, true, true, true, true, true, true, true, true, true, true, true, true, true, true, true, false, false, false, false, false, false, false, false, false, false, false, false, false] rfl rfl (any_of HT_.out (by kernel_rfl)) (fun _ _ _ h => h) (Or.inl ⟨by rfl, ?_⟩) ?_ ?_
                                  rotate_left
                                  · intro w'
                                    go_simp
                                    with_reducible rfl
                                  rotate_left
                                  · simp only [Act.put, List.setIfInBounds_toArray, List.set_cons_zero, List.set_cons_succ, i64_w, i32_w]
                                    rfl
                                  refine pure_ (i := 38) (N := some 110) (v := ?_) (a' := ?_) #[true, true, true, true, true, true, true, true, true, true, true, true, true, true, true, true, true, true, true, true, true, true, true, true, true, true, true, true, true, true, true, true, true, true, true, true, true, true, true, false, false, false, false, false, false, false, false, false, false, false, false] rfl rfl (any_of HT_.out (by kernel_rfl)) (fun _ _ _ h => h) (Or.inl ⟨by rfl, ?_⟩) ?_ ?_
                                  rotate_left
                                  · intro w'
                                    go_simp
                                    with_reducible rfl
                                  rotate_left
                                  · simp only [Act.put, List.setIfInBounds_toArray, List.set_cons_zero, List.set_cons_succ, i64_w, i32_w]
                                    rfl
                                  refine pure_ (i := 39) (N := some 111) (v := ?_) (a' := ?_) #[true, true, true, true, true, true, true, true, true, true, true, true, true, true, true, true, true, true, true, true, true, true, true, true, true, true, true, true, true, true, true, true, true, true, true, true, true, true, true, true, false, false, false, false, false, false, false, false, false, false, false] rfl rfl (any_of HT_.out (by kernel_rfl)) (fun _ _ _ h => h) (Or.inl ⟨by rfl, ?_⟩) ?_ ?_
                                  rotate_left
                                  · intro w'
                                    go_simp
                                    with_reducible rfl
                                  rotate_left
                                  · simp only [Act.put, List.setIfInBounds_toArray, List.set_cons_zero, List.set_cons_succ, i64_w, i32_w]
                                    rfl
                                  refine pure_ (i := 40) (N := some 112) (v := ?_) (a' := ?_) #[true, true, true, true, true, true, true, true, true, true, true, true, true, true, true, true, true, true, true, true, true, true, true, true, true, true, true, true, true, true, true, true, true, true, true, true, true, true, true, true, true, false, false, false, false, false, false, false, false, false, false] rfl rfl (any_of HT_.out (by kernel_rfl)) (fun _ _ _ h => h) (Or.inl ⟨by rfl, ?_⟩) ?_ ?_
                                  rotate_left
                                  · intro w'
                                    go_simp
                                    with_reducible rfl
                                  rotate_left
                                  · simp only [Act.put, List.setIfInBounds_toArray, List.set_cons_zero, List.set_cons_succ, i64_w, i32_w]
                                    rfl
                                  refine pure_ (i := 41) (N := some 113) (v := ?_) (a' := ?_) #[true, true, true, true, true, true, true, true, true, true, true, true, true, true, true, true, true, true, true, true, true, true, true, true, true, true, true, true, true, true, true, true, true, true, true, true, true, true, true, true, true, true, false, false, false, false, false, false, false, false, false] rfl rfl (any_of HT_.out (by kernel_rfl)) (fun _ _ _ h => h) (Or.inl ⟨by rfl, ?_⟩) ?_ ?_
                                  rotate_left
                                  · intro w'
                                    go_simp
                                    with_reducible rfl
                                  rotate_left
                                  · simp only [Act.put, List.setIfInBounds_toArray, List.set_cons_zero, List.set_cons_succ, i64_w, i32_w]
                                    rfl
                                  refine pure_ (i := 42) (N := some 114) (v := ?_) (a' := ?_) #[true, true, true, true, true, true, true, true, true, true, true, true, true, true, true, true, true, true, true, true, true, true, true, true, true, true, true, true, true, true, true, true, true, true, true, true, true, true, true, true, true, true, true, false, false, false, false, false, false, false, false] rfl rfl (any_of HT_.out (by kernel_rfl)) (fun _ _ _ h => h) (Or.inl ⟨by rfl, ?_⟩) ?_ ?_
                                  rotate_left
                                  · intro w'
                                    go_simp
                                    with_reducible rfl
                                  rotate_left
                                  · simp only [Act.put, List.setIfInBounds_toArray, List.set_cons_zero, List.set_cons_succ, i64_w, i32_w]
                                    rfl
                                  refine pure_ (i := 43) (N := some 115) (v := ?_) (a' := ?_) #[true, true, true, true, true, true, true, true, true, true, true, true, true, true, true, true, true, true, true, true, true, true, true, true, true, true, true, true, true, true, true, true, true, true, true, true, true, true, true, true, true, true, true, true, false, false, false, false, false, false, false] rfl rfl (any_of HT_.out (by kernel_rfl)) (fun _ _ _ h => h) (Or.inl ⟨by rfl, ?_⟩) ?_ ?_
                                  rotate_left
                                  · intro w'
                                    go_simp
                                    with_reducible rfl
                                  rotate_left
                                  · simp only [Act.put, List.setIfInBounds_toArray, List.set_cons_zero, List.set_cons_succ, i64_w, i32_w]
                                    rfl
                                  refine pure_ (i := 44) (N := some 116) (v := ?_) (a' := ?_) #[true, true, true, true, true, true, true, true, true, true, true, true, true, true, true, true, true, true, true, true, true, true, true, true, true, true, true, true, true, true, true, true, true, true, true, true, true, true, true, true, true, true, true, true, true, false, false, false, false, false, false] rfl rfl (any_of HT_.out (by kernel_rfl)) (fun _ _ _ h => h) (Or.inl ⟨by rfl, ?_⟩) ?_ ?_
                                  rotate_left
                                  · intro w'
                                    go_simp
                                    with_reducible rfl
                                  rotate_left
                                  · simp only [Act.put, List.setIfInBounds_toArray, List.set_cons_zero, List.set_cons_succ, i64_w, i32_w]
                                    rfl
                                  refine pure_ (i := 45) (N := some 117) (v := ?_) (a' := ?_) #[true, true, true, true, true, true, true, true, true, true, true, true, true, true, true, true, true, true, true, true, true, true, true, true, true, true, true, true, true, true, true, true, true, true, true, true, true, true, true, true, true, true, true, true, true, true, false, false, false, false, false] rfl rfl (any_of HT_.out (by kernel_rfl)) (fun _ _ _ h => h) (Or.inl ⟨by rfl, ?_⟩) ?_ ?_
                                  rotate_left
                                  · intro w'
                                    go_simp
                                    with_reducible rfl
                                  rotate_left
                                  · simp only [Act.put, List.setIfInBounds_toArray, List.set_cons_zero, List.set_cons_succ, i64_w, i32_w]
                                    rfl
                                  refine pure_ (i := 46) (N := some 118) (v := ?_) (a' := ?_) #[true, true, true, true, true, true, true, true, true, true, true, true, true, true, true, true, true, true, true, true, true, true, true, true, true, true, true, true, true, true, true, true, true, true, true, true, true, true, true, true, true, true, true, true, true, true, true, false, false, false, false] rfl rfl (any_of HT_.out (by kernel_rfl)) (fun _ _ _ h => h) (Or.inl ⟨by rfl, ?_⟩) ?_ ?_
                                  rotate_left
                                  · intro w'
                                    go_simp
                                    with_reducible rfl
                                  rotate_left
                                  · simp only [Act.put, List.setIfInBounds_toArray, List.set_cons_zero, List.set_cons_succ, i64_w, i32_w]
                                    rfl
                                  refine pure_ (i := 47) (N := some 119) (v := ?_) (a' := ?_) #[true, true, true, true, true, true, true, true, true, true, true, true, true, true, true, true, true, true, true, true, true, true, true, true, true, true, true, true, true, true, true, true, true, true, true, true, true, true, true, true, true, true, true, true, true, true, true, true, false, false, false] rfl rfl (any_of HT_.out (by kernel_rfl)) (fun _ _ _ h => h) (Or.inl ⟨by rfl, ?_⟩) ?_ ?_
                                  rotate_left
                                  · intro w'
                                    go_simp
                                    with_reducible rfl
                                  rotate_left
                                  · simp only [Act.put, List.setIfInBounds_toArray, List.set_cons_zero, List.set_cons_succ, i64_w, i32_w]
                                    rfl
                                  refine pure_ (i := 48) (N := some 120) (v := ?_) (a' := ?_) #[true, true, true, true, true, true, true, true, true, true, true, true, true, true, true, true, true, true, true, true, true, true, true, true, true, true, true, true, true, true, true, true, true, true, true, true, true, true, true, true, true, true, true, true, true, true, true, true, true, false, false] rfl rfl (any_of HT_.out (by kernel_rfl)) (fun _ _ _ h => h) (Or.inl ⟨by rfl, ?_⟩) ?_ ?_
                                  rotate_left
                                  · intro w'
                                    go_simp
                                    with_reducible rfl
                                  rotate_left
                                  · simp only [Act.put, List.setIfInBounds_toArray, List.set_cons_zero, List.set_cons_succ, i64_w, i32_w]
                                    rfl
                                  refine pure_ (i := 49) (N := some 121) (v := ?_) (a' := ?_) #[true, true, true, true, true, true, true, true, true, true, true, true, true, true, true, true, true, true, true, true, true, true, true, true, true, true, true, true, true, true, true, true, true, true, true, true, true, true, true, true, true, true, true, true, true, true, true, true, true, true, false] rfl rfl (any_of HT_.out (by kernel_rfl)) (fun _ _ _ h => h) (Or.inl ⟨by rfl, ?_⟩) ?_ ?_
                                  rotate_left
                                  · intro w'
                                    go_simp
                                    with_reducible rfl
                                  rotate_left
                                  · simp only [Act.put, List.setIfInBounds_toArray, List.set_cons_zero, List.set_cons_succ, i64_w, i32_w]
                                    rfl
                                  refine pure_ (i := 50) (N := some 0) (v := ?_) (a' := ?_) #[true, true, true, true, true, true, true, true, true, true, true, true, true, true, true, true, true, true, true, true, true, true, true, true, true, true, true, true, true, true, true, true, true, true, true, true, true, true, true, true, true, true, true, true, true, true, true, true, true, true, true] rfl rfl (any_of HT_.out (by kernel_rfl)) (fun _ _ _ h => h) (Or.inl ⟨by rfl, ?_⟩) ?_ ?_
                                  rotate_left
                                  · intro w'
                                    go_simp
                                    with_reducible rfl
                                  rotate_left
                                  · simp only [Act.put, List.setIfInBounds_toArray, List.set_cons_zero, List.set_cons_succ, i64_w, i32_w]
                                    rfl
                                  refine done_ (done_of HT_.out (by kernel_rfl)) ?_
                                  try go_wp2
                                  go_ret
                                  exact ⟨by first | rfl | (simp [errW_none, errW_some] <;> rfl) | (simp [*, errW_none, errW_some] <;> rfl), by repeat (first | (with_reducible first | exact HB.out | apply below_alloc | apply pw_below_drewN | apply below_drew1) | exact HB.out)⟩
                                · rw [if_neg c38] at H
                                  have c38b0 : (t239 == 4) = false := beq_eq_false_iff_ne.mpr c38
                                  have c38b1 : (t239 != 4) = true := bne_iff_ne.mpr c38
                                  exact absurd (Option.some.inj (H.trans (congrArg some hrt))) (by decide)
                              · rw [if_neg c37] at H
                                have c37b0 : (t231 == 3) = false := beq_eq_false_iff_ne.mpr c37
                                have c37b1 : (t231 != 3) = true := bne_iff_ne.mpr c37
                                exact absurd (Option.some.inj (H.trans (congrArg some hrt))) (by decide)
                            · rw [if_neg c36] at H
                              have c36b0 : (t221 == 7) = false := beq_eq_false_iff_ne.mpr c36
                              have c36b1 : (t221 != 7) = true := bne_iff_ne.mpr c36
                              exact absurd (Option.some.inj (H.trans (congrArg some hrt))) (by decide)
                          · replace c35 := Bool.eq_false_iff.mpr c35
                            subst c35
                            have H1 : (some false) = some r := by rw [if_neg (show ¬ (false = true) by decide)] at H; exact H
                            clear H
                            have H := H1
                            clear H1
                            exact absurd (Option.some.inj (H.trans (congrArg some hrt))) (by decide)
                        · rw [if_neg c33] at H
                          have c33b0 : (t222 == 0) = false := beq_eq_false_iff_ne.mpr c33
                          have c33b1 : (t222 != 0) = true := bne_iff_ne.mpr c33
                          exact absurd (Option.some.inj (H.trans (congrArg some hrt))) (by decide)
                      · rw [if_neg c32] at H
                        have c32b0 : ((Go.bits .or .u32 (Go.bits .or .u32 (Go.bits .or .u32 ((((rd y243 3) % 4294967296) * 16777216) % 4294967296) ((((rd y243 4) % 4294967296) * 65536) % 4294967296)) ((((rd y243 5) % 4294967296) * 256) % 4294967296)) ((Go.bits .xor .u8 (rd y243 6) 1) % 4294967296)) == t213) = false := beq_eq_false_iff_ne.mpr c32
                        have c32w0 : ((Go.bits .or .u32 (Go.bits .or .u32 (Go.bits .or .u32 (IntKind.u32.wrap ((IntKind.u32.wrap (rd y243 3)) * 16777216)) (IntKind.u32.wrap ((IntKind.u32.wrap (rd y243 4)) * 65536))) (IntKind.u32.wrap ((IntKind.u32.wrap (rd y243 5)) * 256))) (IntKind.u32.wrap (Go.bits .xor .u8 (rd y243 6) 1))) == t213) = false := c32b0
                        have c32b1 : ((Go.bits .or .u32 (Go.bits .or .u32 (Go.bits .or .u32 ((((rd y243 3) % 4294967296) * 16777216) % 4294967296) ((((rd y243 4) % 4294967296) * 65536) % 4294967296)) ((((rd y243 5) % 4294967296) * 256) % 4294967296)) ((Go.bits .xor .u8 (rd y243 6) 1) % 4294967296)) != t213) = true := bne_iff_ne.mpr c32
                        have c32w1 : ((Go.bits .or .u32 (Go.bits .or .u32 (Go.bits .or .u32 (IntKind.u32.wrap ((IntKind.u32.wrap (rd y243 3)) * 16777216)) (IntKind.u32.wrap ((IntKind.u32.wrap (rd y243 4)) * 65536))) (IntKind.u32.wrap ((IntKind.u32.wrap (rd y243 5)) * 256))) (IntKind.u32.wrap (Go.bits .xor .u8 (rd y243 6) 1))) != t213) = true := c32b1
                        exact absurd (Option.some.inj (H.trans (congrArg some hrt))) (by decide)
                    · rw [if_neg c31] at H
                      exact absurd H (by simp)
                  · rw [if_neg c30] at H
                    exact absurd H (by simp)
                · rw [if_neg c29] at H
                  exact absurd H (by simp)
              · rw [if_neg c26] at H
                exact absurd H (by simp)
            · rw [if_neg c23] at H
              exact absurd H (by simp)
          · rw [if_neg c21] at H
            exact absurd H (by simp)
        · rw [if_neg c18] at H
          exact absurd H (by simp)

/-- Where it is true; else nothing is told. -/
def scriptoriumlaw04_works.f (k : Nat)  : Option (Bool) := (scriptoriumlaw04_works_in.f k).bind fun r_ => if r_ = true then some true else none
theorem scriptoriumlaw04_works.mono : ∀ k, LeO (scriptoriumlaw04_works.f k ) (scriptoriumlaw04_works.f (k + 1) ) := fun k => LeO.bind (scriptoriumlaw04_works_in.mono k) (fun _ => LeO.refl _)
theorem scriptoriumlaw04_works.calls (k : Nat)  (r : Bool) (w : World) (h : scriptoriumlaw04_works.f k = some r) :
    Calls Try.prog 16 #[] w fun e w' => e = .returned (.bool r) ∧ Below w.heap.size w w' := by
  obtain ⟨r_, h1, h2⟩ := Option.bind_eq_some_iff.mp h
  cases r_ with
  | false => exact absurd h2 (by simp)
  | true =>
    have hrt := (Option.some.inj h2).symm
    exact scriptoriumlaw04_works_in.calls k r w (h1.trans (congrArg some hrt.symm)) hrt

end Go.Proofs.Ytkboplflbokofaa.PFrameMakes
