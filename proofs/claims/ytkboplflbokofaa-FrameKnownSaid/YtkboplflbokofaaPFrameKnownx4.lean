/- Written by xprint.py, a program of these sessions (over the print of the kit, with leaves typed by hand): one Lean function for each Go function, and the proof that the Go code comes to its answers. -/
import Derived.Test.YtkboplflbokofaaPFrameKnownx0
import Derived.Test.YtkboplflbokofaaPFrameKnownx1
import Derived.Test.YtkboplflbokofaaPFrameKnownx2
import Derived.Test.YtkboplflbokofaaPFrameKnownx3
namespace Go.Proofs.Ytkboplflbokofaa.PFrameKnown
open Go.RowKit Go.Proofs.YtkboplflbokofaaW.PrintWords Go.Proofs.YtkboplflbokofaaW.PrintLast Go.Proofs.YtkboplflbokofaaW.PrintMore
attribute [local go_sem] max2_int min2_int max_two min_two max_three min_three max_four min_four   -- for this text's walks alone
set_option linter.unusedVariables false
set_option linter.unusedSimpArgs false

/-! ### scriptoriumlaw04_works: function 16 -/
def scriptoriumlaw04_works_in.j0 : Nat → List Int → Bool → Option (Bool)
  | 0, _, _ => none
  | k + 1, x1, x34 => if x34 = true then (some false) else (if 3 ≤ (x1.length : Int) then ((crc_Of.f (x1.take 3)).bind fun t181 => ((scriptoriumref00_CopyBytes.f x1).bind fun t182 => (if t182.length < 140737488355328 then ((frame_Next.f k (t182 ++ [9])).bind fun bt188 => (if 6 ≤ (x1.length : Int) then ((frame_Next.f k (x1.take 6)).bind fun bt197 => ((frame_Next.f k (([8] : List Int))).bind fun bt205 => (if 6 < (x1.length : Int) then ((some (x1.set (6 : Int).toNat (Go.bits .xor .u8 (rd x1 6) 1) : List Int)).bind fun y211 => ((frame_Next.f k y211).bind fun bt212 => (if 3 < (x1.length : Int) then (if 4 < (x1.length : Int) then (if 5 < (x1.length : Int) then (if (Go.bits .or .u32 (Go.bits .or .u32 (Go.bits .or .u32 ((((rd y211 3) % 4294967296) * 16777216) % 4294967296) ((((rd y211 4) % 4294967296) * 65536) % 4294967296)) ((((rd y211 5) % 4294967296) * 256) % 4294967296)) ((Go.bits .xor .u8 (rd y211 6) 1) % 4294967296)) = t181 then (if bt188.2.2 = 0 then ((scriptoriumref00_EqBytes.f k bt188.1 (([97] : List Int))).bind fun t224 => (if t224 = true then (if bt188.2.1 = 7 then (if bt197.2.2 = 3 then (if bt205.2.2 = 4 then (some (bt212.2.2 == 40)) else (some false)) else (some false)) else (some false)) else (some false))) else (some false)) else (some false)) else (none)) else (none)) else (none)))) else (none)))) else (none))) else (none)))) else (none))
def scriptoriumlaw04_works_in.f (k : Nat)  : Option (Bool) := (frame_Frame.f k (([97] : List Int))).bind fun bt165 => (if bt165.2 = 0 then (if (bt165.1.length : Int) = 7 then (if 3 ≤ (bt165.1.length : Int) then ((scriptoriumref00_EqBytes.f k (bt165.1.take 3) (([1, 1, 97] : List Int))).bind fun t176 => (scriptoriumlaw04_works_in.j0 k bt165.1 (!t176))) else (none)) else (scriptoriumlaw04_works_in.j0 k bt165.1 true)) else (scriptoriumlaw04_works_in.j0 k bt165.1 true))
theorem scriptoriumlaw04_works_in.mono_l : ∀ k, (∀ y0 y1, LeO (scriptoriumlaw04_works_in.j0 k y0 y1) (scriptoriumlaw04_works_in.j0 (k + 1) y0 y1))
  | 0 => fun _ _ r h => by simp [scriptoriumlaw04_works_in.j0] at h
  | k + 1 => by
    have ih0 := scriptoriumlaw04_works_in.mono_l k
    · intro y0 y1
      unfold scriptoriumlaw04_works_in.j0
      repeat' first
      | (with_reducible exact ih0 _ _)
      | (with_reducible exact frame_Frame.mono _ _)
      | (with_reducible exact frame_Next.mono _ _)
      | (with_reducible exact scriptoriumref00_EqBytes.mono _ _ _)
      | (with_reducible exact LeO.refl _)
      | (with_reducible exact LeO.none _)
      | (with_reducible refine LeO.ite ?_ ?_)
      | (with_reducible refine LeO.bind ?_ (fun _ => ?_))
      | exact ih0 _ _
      | exact frame_Frame.mono _ _
      | exact frame_Next.mono _ _
      | exact scriptoriumref00_EqBytes.mono _ _ _
      | exact LeO.none _
      | refine LeO.ite ?_ ?_
      | refine LeO.bind ?_ (fun _ => ?_)
theorem scriptoriumlaw04_works_in.mono : ∀ k, LeO (scriptoriumlaw04_works_in.f k ) (scriptoriumlaw04_works_in.f (k + 1) ) := by
  intro  k
  have ih0 := scriptoriumlaw04_works_in.mono_l k
  unfold scriptoriumlaw04_works_in.f
  repeat' first
      | (with_reducible exact ih0 _ _)
      | (with_reducible exact frame_Frame.mono _ _)
      | (with_reducible exact frame_Next.mono _ _)
      | (with_reducible exact scriptoriumref00_EqBytes.mono _ _ _)
      | (with_reducible exact LeO.refl _)
      | (with_reducible exact LeO.none _)
      | (with_reducible refine LeO.ite ?_ ?_)
      | (with_reducible refine LeO.bind ?_ (fun _ => ?_))
      | exact ih0 _ _
      | exact frame_Frame.mono _ _
      | exact frame_Next.mono _ _
      | exact scriptoriumref00_EqBytes.mono _ _ _
      | exact LeO.none _
      | refine LeO.ite ?_ ?_
      | refine LeO.bind ?_ (fun _ => ?_)
def scriptoriumlaw04_works_in.T10 : Bool × List (List Nat × List Nat) := (true, [([], []), ([0], [0]), ([1], [1]), ([2], [2]), ([3], [3]), ([], []), ([5], [5]), ([6], [6]), ([7], [7]), ([8], [8]), ([4, 9], [4, 9]), ([], []), ([11], [11]), ([12], [12]), ([13], [13]), ([14], [14]), ([10, 15], [10, 15]), ([], []), ([17], [17]), ([18], [18]), ([19], [19]), ([20], [20]), ([16, 21], [16, 21]), ([], []), ([22, 23], [22, 23]), ([24], [24]), ([25], [25]), ([26, 25], [25, 26]), ([25, 27], [25, 27]), ([28, 25], [28]), ([29], [29]), ([29], [29]), ([30, 31, 29, 29], [29, 30, 31]), ([29, 32], [29, 32]), ([33, 32], [33]), ([34], [34]), ([35, 34], [34, 35]), ([34, 36], [34, 36]), ([37, 34], [37]), ([38], [38]), ([39, 38], [38, 39]), ([38, 40], [38, 40]), ([41, 38], [41]), ([42], [42]), ([43, 42], [42, 43]), ([42, 44], [42, 44]), ([45, 42], [45]), ([46], [46]), ([47, 46], [46, 47]), ([46, 48], [46, 48]), ([49, 46, 0, 1, 2, 3, 4, 5, 6, 7, 8, 9, 10, 11, 12, 13, 14, 15, 16, 17, 18, 19, 20, 21, 22, 23, 24, 25, 26, 27, 28, 29, 30, 31, 32, 33, 34, 35, 36, 37, 38, 39, 40, 41, 42, 43, 44, 45, 46, 47, 48, 49], [49])])
def scriptoriumlaw04_works_in.B10 : List Nat := [0, 1, 3, 7, 15, 0, 32, 96, 224, 480, 1023, 0, 2048, 6144, 14336, 30720, 65535, 0, 131072, 393216, 917504, 1966080, 4194303, 0, 16777215, 33554431, 67108863, 134217727, 268435455, 536870911, 1073741823, 1073741823, 4294967295, 8589934591, 17179869183, 34359738367, 68719476735, 137438953471, 274877906943, 549755813887, 1099511627775, 2199023255551, 4398046511103, 8796093022207, 17592186044415, 35184372088831, 70368744177663, 140737488355327, 281474976710655, 562949953421311, 1125899906842623]
theorem scriptoriumlaw04_works_in.tab10 : rtab .any (opsOf Try.f16 10) = scriptoriumlaw04_works_in.T10 := by kernel_rfl
theorem scriptoriumlaw04_works_in.bits10 : waitsOk scriptoriumlaw04_works_in.T10.2 scriptoriumlaw04_works_in.B10 = true := by kernel_rfl
set_option maxHeartbeats 8000000 in
set_option maxRecDepth 100000 in
theorem scriptoriumlaw04_works_in.calls (k : Nat)  (r : Bool) (w : World) (h : scriptoriumlaw04_works_in.f k  = some r) (hrt : r = true) :
    Calls Try.prog 16 #[] w fun e w' => e = .returned (.bool r) ∧ Below w.heap.size w w' := by
  have HB := Aside0.mk (Below.refl w.heap.size w)
  have H : ((frame_Frame.f k (([97] : List Int))).bind fun bt165 => (if bt165.2 = 0 then (if (bt165.1.length : Int) = 7 then (if 3 ≤ (bt165.1.length : Int) then ((scriptoriumref00_EqBytes.f k (bt165.1.take 3) (([1, 1, 97] : List Int))).bind fun t176 => (scriptoriumlaw04_works_in.j0 k bt165.1 (!t176))) else (none)) else (scriptoriumlaw04_works_in.j0 k bt165.1 true)) else (scriptoriumlaw04_works_in.j0 k bt165.1 true))) = some r := h
  clear h
  obtain ⟨y162, hy162⟩ : ∃ y_ : List Int, y_ = (([97] : List Int)) := ⟨_, rfl⟩
  replace H : ((frame_Frame.f k y162).bind fun bt165 => (if bt165.2 = 0 then (if (bt165.1.length : Int) = 7 then (if 3 ≤ (bt165.1.length : Int) then ((scriptoriumref00_EqBytes.f k (bt165.1.take 3) (([1, 1, 97] : List Int))).bind fun t176 => (scriptoriumlaw04_works_in.j0 k bt165.1 (!t176))) else (none)) else (scriptoriumlaw04_works_in.j0 k bt165.1 true)) else (scriptoriumlaw04_works_in.j0 k bt165.1 true))) = some r := by first | (rw [hy162]; with_reducible exact H) | (have H2_ := (Option.bind_some _ _).symm.trans H; rw [hy162]; with_reducible exact H2_) | (have H2_ := (Option.bind_some _ _).symm.trans H; with_reducible exact H2_) | with_reducible exact H | (rw [hy162]; exact H) | exact H
  have Ny162 := Aside0.mk hy162
  clear hy162
  replace H := Option.bind_eq_some_iff.mp H
  obtain ⟨⟨t165, t168⟩, A10, H⟩ := H
  replace H : (if t168 = 0 then (if (t165.length : Int) = 7 then (if 3 ≤ (t165.length : Int) then ((scriptoriumref00_EqBytes.f k (t165.take 3) (([1, 1, 97] : List Int))).bind fun t176 => (scriptoriumlaw04_works_in.j0 k t165 (!t176))) else (none)) else (scriptoriumlaw04_works_in.j0 k t165 true)) else (scriptoriumlaw04_works_in.j0 k t165 true)) = some r := H
  have A1 := Aside0.mk A10
  clear A10
  have HC2 := Aside0.mk H
  clear H
  go_enter Try.func16, Try.ntmps16
  go_upto_region 2 with (first | ((with_reducible refine gate_dst (N := 17) rfl ?_); (try (refine gate_guard (by rfl) ?_; dsimp only)); refine Kd.R_lit (Kd.int .u8) _ 5 ?hg (N := 17) ?hd (xs := ([97] : List Int)) (inner := [.int .u8 97]) (ok := fun _ => True) (okp := fun _ => True) ?hr ?hp (fun _ hk => hk) trivial (Below.refl _ _) (Nat.le_refl _) (by simp) ?_; (case hd => rfl); (case hg => rfl); (case hr => first | (go_simp; done) | (go_simp; rfl)); (case hp => exact (Reps.one (show Kd.M (Kd.int .u8) _ _ _ 97 [.int .u8 97] from rfl) (Reps.none _ _))); intro v163 w3 ho4 hb hg_ hnew_; clear hg_ hnew_; (first | rw [← Ny162.out] at ho4 | (simp only [Int.reduceToNat] at ho4; rw [← Ny162.out] at ho4)); have n0_ := Aside0.mk (Kd.R_lower ho4 (below_size (by repeat (first | (with_reducible first | exact HB.out | apply below_alloc | apply pw_below_drewN | apply below_drew1) | exact HB.out)))); have n1_ := Aside0.mk (below_step (by repeat (first | (with_reducible first | exact HB.out | apply below_alloc | apply pw_below_drewN | apply below_drew1) | exact HB.out)) hb); clear HB; have HO164 := n0_; have HB := n1_; clear n0_ n1_; clear hb ho4; obtain ⟨Ao5, co5, eo5⟩ := Kd.R_slice HO164.out; subst eo5) | ((with_reducible refine gate_callee (f := 13) rfl ?_); refine goesL_ (some 18) rfl rfl Try.func13 (by kernel_rfl) rfl #[.slice Ao5 y162.length co5] rfl (by (try simp only [List.map_toArray, List.map_cons, List.map_nil]); first | done | rfl | (simp only [List.length_drop, List.length_take]; rfl)) ?_; (with_reducible refine (frame_Frame.calls k (fun k_ => some k_ = (.slice Ao5 y162.length co5 : Value).ownBlock) _ _ y162 t165 t168 _ ?side1 A1.out).mono ?_); (case side1 => exact Kd.R_V (Kd.R_tight rfl (HO164.out))); rintro e w6 ⟨v166, rfl, ho0, hb⟩; refine ⟨_, rfl, ?_⟩; have n0_ := Aside0.mk (Kd.R_elder' (by (with_reducible repeat (first | apply Kd.R_alloc | apply Kd.R_drewN | apply Kd.R_drew)); exact HO164.out) (Kd.R_base ho0) hb); have n1_ := Aside0.mk (Kd.R_lower (Kd.R_new' (Kd.R_mono (ok' := fun k_ => True) ho0 (fun _ hk_ => trivial)) (Kd.R_lt (by (with_reducible repeat (first | apply Kd.R_alloc | apply Kd.R_drewN | apply Kd.R_drew)); exact HO164.out))) (below_size (by repeat (first | (with_reducible first | exact HB.out | apply below_alloc | apply pw_below_drewN | apply below_drew1) | exact HB.out)))); have n2_ := Aside0.mk (below_step (by repeat (first | (with_reducible first | exact HB.out | apply below_alloc | apply pw_below_drewN | apply below_drew1) | exact HB.out)) hb); clear HO164; clear HB; have HO164 := n0_; have HO167 := n1_; have HB := n2_; clear n0_ n1_ n2_; (try clear hb); (try clear hb2); (try clear hk); (try clear hi); (try clear ho0)))
  (try simp only [Act.put, List.setIfInBounds_toArray, List.set_cons_zero, List.set_cons_succ])
  go_cut [34] (fun v34 wc => ∃ (kq : Nat) (x34_1 : Bool), v34 = .bool x34_1 ∧ Aside0 (scriptoriumlaw04_works_in.j0 kq t165 x34_1 = some r) ∧ Aside0 (kq ≤ k) ∧ Aside0 (Kd.R (Kd.int .u8) 5 wc w.heap.size (fun _ => True) v166 t165) ∧ Aside0 (Below w.heap.size w wc))
  case first =>
    have H := HC2.out
    clear HC2
    by_cases c7 : t168 = 0
    · rw [if_pos c7] at H
      have c7b0 : (t168 == 0) = true := beq_iff_eq.mpr c7
      have c7b1 : (t168 != 0) = false := bne_eq_false_iff_eq.mpr c7
      clear c7
      (first | rw [c7b0] | (simp only [i64_w, i32_w]; rw [c7b0]) | skip)
      by_cases c8 : (t165.length : Int) = 7
      · rw [if_pos c8] at H
        have c8b0 : ((t165.length : Int) == 7) = true := beq_iff_eq.mpr c8
        have c8b1 : ((t165.length : Int) != 7) = false := bne_eq_false_iff_eq.mpr c8
        clear c8
        by_cases c9 : 3 ≤ (t165.length : Int)
        · rw [if_pos c9] at H
          have c9b0 := eq_true c9
          have c9b1 : decide (3 ≤ (t165.length : Int)) = true := decide_eq_true c9
          clear c9
          obtain ⟨y169, hy169⟩ : ∃ y_ : List Int, y_ = (t165.take 3) := ⟨_, rfl⟩
          replace H : ((scriptoriumref00_EqBytes.f k y169 (([1, 1, 97] : List Int))).bind fun t176 => (scriptoriumlaw04_works_in.j0 k t165 (!t176))) = some r := by first | (rw [hy169]; with_reducible exact H) | (have H2_ := (Option.bind_some _ _).symm.trans H; rw [hy169]; with_reducible exact H2_) | (have H2_ := (Option.bind_some _ _).symm.trans H; with_reducible exact H2_) | with_reducible exact H | (rw [hy169]; exact H) | exact H
          have Ny169 := Aside0.mk hy169
          clear hy169
          obtain ⟨y173, hy173⟩ : ∃ y_ : List Int, y_ = (([1, 1, 97] : List Int)) := ⟨_, rfl⟩
          replace H : ((scriptoriumref00_EqBytes.f k y169 y173).bind fun t176 => (scriptoriumlaw04_works_in.j0 k t165 (!t176))) = some r := by first | (rw [hy173]; with_reducible exact H) | (have H2_ := (Option.bind_some _ _).symm.trans H; rw [hy173]; with_reducible exact H2_) | (have H2_ := (Option.bind_some _ _).symm.trans H; with_reducible exact H2_) | with_reducible exact H | (rw [hy173]; exact H) | exact H
          have Ny173 := Aside0.mk hy173
          clear hy173
          replace H := Option.bind_eq_some_iff.mp H
          obtain ⟨t176, A100, H⟩ := H
          replace H : (scriptoriumlaw04_works_in.j0 k t165 (!t176)) = some r := H
          have A10 := Aside0.mk A100
          clear A100
          have H' := Aside0.mk H
          clear H
          obtain ⟨Ao11, co11, eo11⟩ := Kd.R_slice HO167.out
          subst eo11
          have q12 : (3 : Int) ≤ ((t165.length : Int) : Int) := of_decide_eq_true (by first | (with_reducible assumption) | assumption)
          obtain ⟨i012, hi012, _, hsz12, _⟩ := info_parts info5
          have hroom12 : t165.length ≤ co11 := (Kd.R_reads' HO167.out).2.1
          have hC12 : Kd.C (Kd.int .u8) _ Ao11 t165.length t165 := (Kd.R_reads' HO167.out).2.2
          have hcut12 := cut_to (P := Try.prog) 22 5 .i64 Try.underlying22 hi012 Ao11 t165.length co11 3 (by omega) q12 hroom12
          have hr12 := Kd.C_take (m := 3) hC12 (by omega)
          have hy12 : y169.length = (3 : Int).toNat := (by rw [Ny169.out, List.length_take]; omega)
          rw [← Ny169.out] at hr12
          rw [← hy12] at hcut12
          have HR172 := Aside0.mk hr12
          have HC172 := Aside0.mk (show y169.length ≤ co11 from by omega)
          clear hr12 hC12 hroom12 hi012 hsz12
          have KY12 := Aside0.mk hy12
          clear hy12
          have KL12 := Aside0.mk (show 3 ≤ t165.length from by omega)
          replace q12 := eq_true q12
          go_wp2_with (first | ((with_reducible refine gate_dst (N := 31) rfl ?_); (try (refine gate_guard (by rfl) ?_; dsimp only)); refine Kd.R_lit (Kd.int .u8) _ 5 ?hg (N := 31) ?hd (xs := ([1, 1, 97] : List Int)) (inner := [.int .u8 1, .int .u8 1, .int .u8 97]) (ok := fun _ => True) (okp := fun _ => True) ?hr ?hp (fun _ hk => hk) trivial (Below.refl _ _) (Nat.le_refl _) (by simp) ?_; (case hd => rfl); (case hg => rfl); (case hr => first | (go_simp; done) | (go_simp; rfl)); (case hp => exact (Reps.one (show Kd.M (Kd.int .u8) _ _ _ 1 [.int .u8 1] from rfl) (Reps.one (show Kd.M (Kd.int .u8) _ _ _ 1 [.int .u8 1] from rfl) (Reps.one (show Kd.M (Kd.int .u8) _ _ _ 97 [.int .u8 97] from rfl) (Reps.none _ _))))); intro v174 w13 ho14 hb hg_ hnew_; clear hg_ hnew_; (first | rw [← Ny173.out] at ho14 | (simp only [Int.reduceToNat] at ho14; rw [← Ny173.out] at ho14)); have n0_ := Aside0.mk (Kd.R_elder' (by (with_reducible repeat (first | apply Kd.R_alloc | apply Kd.R_drewN | apply Kd.R_drew)); exact HO164.out) (Kd.R_base ho14) hb); have n1_ := Aside0.mk (Kd.R_elder' (by (with_reducible repeat (first | apply Kd.R_alloc | apply Kd.R_drewN | apply Kd.R_drew)); exact HO167.out) (Kd.R_base ho14) hb); have n2_ := Aside0.mk (Kd.R_lower (Kd.R_new' (Kd.R_new' ho14 (Kd.R_lt (by (with_reducible repeat (first | apply Kd.R_alloc | apply Kd.R_drewN | apply Kd.R_drew)); exact HO164.out))) (Kd.R_lt (by (with_reducible repeat (first | apply Kd.R_alloc | apply Kd.R_drewN | apply Kd.R_drew)); exact HO167.out))) (below_size (by repeat (first | (with_reducible first | exact HB.out | apply below_alloc | apply pw_below_drewN | apply below_drew1) | exact HB.out)))); have n3_ := Aside0.mk (Kd.C_below (by repeat (first | (with_reducible exact HR172.out) | (with_reducible refine Kd.C_alloc ?_ _) | (with_reducible refine Kd.C_drewN ?_ _) | (with_reducible refine Kd.C_drew ?_) | exact HR172.out)) hb); have n4_ := Aside0.mk (below_step (by repeat (first | (with_reducible first | exact HB.out | apply below_alloc | apply pw_below_drewN | apply below_drew1) | exact HB.out)) hb); clear HO164; clear HO167; clear HR172; clear HB; have HO164 := n0_; have HO167 := n1_; have HO175 := n2_; have HR172 := n3_; have HB := n4_; clear n0_ n1_ n2_ n3_ n4_; clear hb ho14; obtain ⟨Ao15, co15, eo15⟩ := Kd.R_slice HO175.out; subst eo15) | (go_at_call 15; (with_reducible refine (scriptoriumref00_EqBytes.calls k _ _ y169 _ _ y173 t176 _ ?side1 ?side2 ?side3 ?side4 A10.out).mono ?_); (case side1 => repeat (first | exact (by repeat (first | (with_reducible exact HR172.out) | (with_reducible refine Kd.C_alloc ?_ _) | (with_reducible refine Kd.C_drewN ?_ _) | (with_reducible refine Kd.C_drew ?_) | exact HR172.out)) | (with_reducible refine Kd.C_alloc ?_ _) | (with_reducible refine Kd.C_drewN ?_ _) | (with_reducible refine Kd.C_drew ?_))); (case side2 => exact HC172.out); (case side3 => repeat (first | exact (Kd.R_reads' HO175.out).2.2 | (with_reducible refine Kd.C_alloc ?_ _) | (with_reducible refine Kd.C_drewN ?_ _) | (with_reducible refine Kd.C_drew ?_))); (case side4 => exact (Kd.R_reads' HO175.out).2.1); rintro e w' ⟨rfl, ⟨nd, rfl⟩⟩))
          go_meet
          case rel => exact ⟨_, (!t176), (by first | rfl | (simp; done) | (simp [*]; done)), H', ⟨by first | omega | exact Nat.le_refl _⟩, ⟨by (with_reducible repeat (first | apply Kd.R_alloc | apply Kd.R_drewN | apply Kd.R_drew)); exact Kd.R_mono HO167.out (fun _ hk => trivial)⟩, ⟨by repeat (first | (with_reducible first | exact HB.out | apply below_alloc | apply pw_below_drewN | apply below_drew1) | exact HB.out)⟩⟩
        · rw [if_neg c9] at H
          exact absurd H (by simp)
      · rw [if_neg c8] at H
        have c8b0 : ((t165.length : Int) == 7) = false := beq_eq_false_iff_ne.mpr c8
        have c8b1 : ((t165.length : Int) != 7) = true := bne_iff_ne.mpr c8
        have H' := Aside0.mk H
        clear H
        obtain ⟨Ao16, co16, eo16⟩ := Kd.R_slice HO167.out
        subst eo16
        go_wp2
        go_meet
        case rel => exact ⟨_, (true), (by first | rfl | (simp; done) | (simp [*]; done)), H', ⟨by first | omega | exact Nat.le_refl _⟩, ⟨by (with_reducible repeat (first | apply Kd.R_alloc | apply Kd.R_drewN | apply Kd.R_drew)); exact Kd.R_mono HO167.out (fun _ hk => trivial)⟩, ⟨by repeat (first | (with_reducible first | exact HB.out | apply below_alloc | apply pw_below_drewN | apply below_drew1) | exact HB.out)⟩⟩
    · rw [if_neg c7] at H
      have c7b0 : (t168 == 0) = false := beq_eq_false_iff_ne.mpr c7
      have c7b1 : (t168 != 0) = true := bne_iff_ne.mpr c7
      (first | rw [c7b0] | (simp only [i64_w, i32_w]; rw [c7b0]) | skip)
      have H' := Aside0.mk H
      clear H
      go_wp2
      go_meet
      case rel => exact ⟨_, (true), (by first | rfl | (simp; done) | (simp [*]; done)), H', ⟨by first | omega | exact Nat.le_refl _⟩, ⟨by (with_reducible repeat (first | apply Kd.R_alloc | apply Kd.R_drewN | apply Kd.R_drew)); exact Kd.R_mono HO167.out (fun _ hk => trivial)⟩, ⟨by repeat (first | (with_reducible first | exact HB.out | apply below_alloc | apply pw_below_drewN | apply below_drew1) | exact HB.out)⟩⟩
  case rest =>
    clear HC2
    try clear c1
    try clear q1
    try clear p2
    try clear c7
    try clear c7b0
    try clear c7b1
    try clear c8
    try clear c8b0
    try clear c8b1
    try clear c9
    try clear c9b0
    try clear c9b1
    try clear q12
    try clear c13
    try clear c16
    try clear q12
    obtain ⟨kq, x34_1, rfl, HA, HJ1, HO_1, HB⟩ := hcut
    cases kq with
    | zero => exact absurd HA.out (by simp [scriptoriumlaw04_works_in.j0])
    | succ kj1 =>
      have H := HA.out
      clear HA
      simp only [scriptoriumlaw04_works_in.j0] at H
      by_cases c17 : x34_1 = true
      · subst c17
        have H1 : (some false) = some r := by rw [if_pos rfl] at H; exact H
        clear H
        have H := H1
        clear H1
        exact absurd (Option.some.inj (H.trans (congrArg some hrt))) (by decide)
      · replace c17 := Bool.eq_false_iff.mpr c17
        subst c17
        have H1 : (if 3 ≤ (t165.length : Int) then ((crc_Of.f (t165.take 3)).bind fun t181 => ((scriptoriumref00_CopyBytes.f t165).bind fun t182 => (if t182.length < 140737488355328 then ((frame_Next.f kj1 (t182 ++ [9])).bind fun bt188 => (if 6 ≤ (t165.length : Int) then ((frame_Next.f kj1 (t165.take 6)).bind fun bt197 => ((frame_Next.f kj1 (([8] : List Int))).bind fun bt205 => (if 6 < (t165.length : Int) then ((some (t165.set (6 : Int).toNat (Go.bits .xor .u8 (rd t165 6) 1) : List Int)).bind fun y211 => ((frame_Next.f kj1 y211).bind fun bt212 => (if 3 < (t165.length : Int) then (if 4 < (t165.length : Int) then (if 5 < (t165.length : Int) then (if (Go.bits .or .u32 (Go.bits .or .u32 (Go.bits .or .u32 ((((rd y211 3) % 4294967296) * 16777216) % 4294967296) ((((rd y211 4) % 4294967296) * 65536) % 4294967296)) ((((rd y211 5) % 4294967296) * 256) % 4294967296)) ((Go.bits .xor .u8 (rd y211 6) 1) % 4294967296)) = t181 then (if bt188.2.2 = 0 then ((scriptoriumref00_EqBytes.f kj1 bt188.1 (([97] : List Int))).bind fun t224 => (if t224 = true then (if bt188.2.1 = 7 then (if bt197.2.2 = 3 then (if bt205.2.2 = 4 then (some (bt212.2.2 == 40)) else (some false)) else (some false)) else (some false)) else (some false))) else (some false)) else (some false)) else (none)) else (none)) else (none)))) else (none)))) else (none))) else (none)))) else (none)) = some r := by rw [if_neg (show ¬ (false = true) by decide)] at H; exact H
        clear H
        have H := H1
        clear H1
        by_cases c18 : 3 ≤ (t165.length : Int)
        · rw [if_pos c18] at H
          have c18b0 := eq_true c18
          have c18b1 : decide (3 ≤ (t165.length : Int)) = true := decide_eq_true c18
          clear c18
          obtain ⟨y177, hy177⟩ : ∃ y_ : List Int, y_ = (t165.take 3) := ⟨_, rfl⟩
          replace H : ((crc_Of.f y177).bind fun t181 => ((scriptoriumref00_CopyBytes.f t165).bind fun t182 => (if t182.length < 140737488355328 then ((frame_Next.f kj1 (t182 ++ [9])).bind fun bt188 => (if 6 ≤ (t165.length : Int) then ((frame_Next.f kj1 (t165.take 6)).bind fun bt197 => ((frame_Next.f kj1 (([8] : List Int))).bind fun bt205 => (if 6 < (t165.length : Int) then ((some (t165.set (6 : Int).toNat (Go.bits .xor .u8 (rd t165 6) 1) : List Int)).bind fun y211 => ((frame_Next.f kj1 y211).bind fun bt212 => (if 3 < (t165.length : Int) then (if 4 < (t165.length : Int) then (if 5 < (t165.length : Int) then (if (Go.bits .or .u32 (Go.bits .or .u32 (Go.bits .or .u32 ((((rd y211 3) % 4294967296) * 16777216) % 4294967296) ((((rd y211 4) % 4294967296) * 65536) % 4294967296)) ((((rd y211 5) % 4294967296) * 256) % 4294967296)) ((Go.bits .xor .u8 (rd y211 6) 1) % 4294967296)) = t181 then (if bt188.2.2 = 0 then ((scriptoriumref00_EqBytes.f kj1 bt188.1 (([97] : List Int))).bind fun t224 => (if t224 = true then (if bt188.2.1 = 7 then (if bt197.2.2 = 3 then (if bt205.2.2 = 4 then (some (bt212.2.2 == 40)) else (some false)) else (some false)) else (some false)) else (some false))) else (some false)) else (some false)) else (none)) else (none)) else (none)))) else (none)))) else (none))) else (none)))) = some r := by first | (rw [hy177]; with_reducible exact H) | (have H2_ := (Option.bind_some _ _).symm.trans H; rw [hy177]; with_reducible exact H2_) | (have H2_ := (Option.bind_some _ _).symm.trans H; with_reducible exact H2_) | with_reducible exact H | (rw [hy177]; exact H) | exact H
          have Ny177 := Aside0.mk hy177
          clear hy177
          replace H := Option.bind_eq_some_iff.mp H
          obtain ⟨t181, A190, H⟩ := H
          replace H : ((scriptoriumref00_CopyBytes.f t165).bind fun t182 => (if t182.length < 140737488355328 then ((frame_Next.f kj1 (t182 ++ [9])).bind fun bt188 => (if 6 ≤ (t165.length : Int) then ((frame_Next.f kj1 (t165.take 6)).bind fun bt197 => ((frame_Next.f kj1 (([8] : List Int))).bind fun bt205 => (if 6 < (t165.length : Int) then ((some (t165.set (6 : Int).toNat (Go.bits .xor .u8 (rd t165 6) 1) : List Int)).bind fun y211 => ((frame_Next.f kj1 y211).bind fun bt212 => (if 3 < (t165.length : Int) then (if 4 < (t165.length : Int) then (if 5 < (t165.length : Int) then (if (Go.bits .or .u32 (Go.bits .or .u32 (Go.bits .or .u32 ((((rd y211 3) % 4294967296) * 16777216) % 4294967296) ((((rd y211 4) % 4294967296) * 65536) % 4294967296)) ((((rd y211 5) % 4294967296) * 256) % 4294967296)) ((Go.bits .xor .u8 (rd y211 6) 1) % 4294967296)) = t181 then (if bt188.2.2 = 0 then ((scriptoriumref00_EqBytes.f kj1 bt188.1 (([97] : List Int))).bind fun t224 => (if t224 = true then (if bt188.2.1 = 7 then (if bt197.2.2 = 3 then (if bt205.2.2 = 4 then (some (bt212.2.2 == 40)) else (some false)) else (some false)) else (some false)) else (some false))) else (some false)) else (some false)) else (none)) else (none)) else (none)))) else (none)))) else (none))) else (none))) = some r := H
          have A19 := Aside0.mk A190
          clear A190
          replace H := Option.bind_eq_some_iff.mp H
          obtain ⟨t182, A200, H⟩ := H
          replace H : (if t182.length < 140737488355328 then ((frame_Next.f kj1 (t182 ++ [9])).bind fun bt188 => (if 6 ≤ (t165.length : Int) then ((frame_Next.f kj1 (t165.take 6)).bind fun bt197 => ((frame_Next.f kj1 (([8] : List Int))).bind fun bt205 => (if 6 < (t165.length : Int) then ((some (t165.set (6 : Int).toNat (Go.bits .xor .u8 (rd t165 6) 1) : List Int)).bind fun y211 => ((frame_Next.f kj1 y211).bind fun bt212 => (if 3 < (t165.length : Int) then (if 4 < (t165.length : Int) then (if 5 < (t165.length : Int) then (if (Go.bits .or .u32 (Go.bits .or .u32 (Go.bits .or .u32 ((((rd y211 3) % 4294967296) * 16777216) % 4294967296) ((((rd y211 4) % 4294967296) * 65536) % 4294967296)) ((((rd y211 5) % 4294967296) * 256) % 4294967296)) ((Go.bits .xor .u8 (rd y211 6) 1) % 4294967296)) = t181 then (if bt188.2.2 = 0 then ((scriptoriumref00_EqBytes.f kj1 bt188.1 (([97] : List Int))).bind fun t224 => (if t224 = true then (if bt188.2.1 = 7 then (if bt197.2.2 = 3 then (if bt205.2.2 = 4 then (some (bt212.2.2 == 40)) else (some false)) else (some false)) else (some false)) else (some false))) else (some false)) else (some false)) else (none)) else (none)) else (none)))) else (none)))) else (none))) else (none)) = some r := H
          have A20 := Aside0.mk A200
          clear A200
          by_cases c21 : t182.length < 140737488355328
          · rw [if_pos c21] at H
            have LMc21 := Aside0.mk c21
            clear c21
            obtain ⟨y185, hy185⟩ : ∃ y_ : List Int, y_ = (t182 ++ [9]) := ⟨_, rfl⟩
            replace H : ((frame_Next.f kj1 y185).bind fun bt188 => (if 6 ≤ (t165.length : Int) then ((frame_Next.f kj1 (t165.take 6)).bind fun bt197 => ((frame_Next.f kj1 (([8] : List Int))).bind fun bt205 => (if 6 < (t165.length : Int) then ((some (t165.set (6 : Int).toNat (Go.bits .xor .u8 (rd t165 6) 1) : List Int)).bind fun y211 => ((frame_Next.f kj1 y211).bind fun bt212 => (if 3 < (t165.length : Int) then (if 4 < (t165.length : Int) then (if 5 < (t165.length : Int) then (if (Go.bits .or .u32 (Go.bits .or .u32 (Go.bits .or .u32 ((((rd y211 3) % 4294967296) * 16777216) % 4294967296) ((((rd y211 4) % 4294967296) * 65536) % 4294967296)) ((((rd y211 5) % 4294967296) * 256) % 4294967296)) ((Go.bits .xor .u8 (rd y211 6) 1) % 4294967296)) = t181 then (if bt188.2.2 = 0 then ((scriptoriumref00_EqBytes.f kj1 bt188.1 (([97] : List Int))).bind fun t224 => (if t224 = true then (if bt188.2.1 = 7 then (if bt197.2.2 = 3 then (if bt205.2.2 = 4 then (some (bt212.2.2 == 40)) else (some false)) else (some false)) else (some false)) else (some false))) else (some false)) else (some false)) else (none)) else (none)) else (none)))) else (none)))) else (none))) = some r := by first | (rw [hy185]; with_reducible exact H) | (have H2_ := (Option.bind_some _ _).symm.trans H; rw [hy185]; with_reducible exact H2_) | (have H2_ := (Option.bind_some _ _).symm.trans H; with_reducible exact H2_) | with_reducible exact H | (rw [hy185]; exact H) | exact H
            have Ny185 := Aside0.mk hy185
            clear hy185
            replace H := Option.bind_eq_some_iff.mp H
            obtain ⟨⟨t188, t189, t190⟩, A220, H⟩ := H
            replace H : (if 6 ≤ (t165.length : Int) then ((frame_Next.f kj1 (t165.take 6)).bind fun bt197 => ((frame_Next.f kj1 (([8] : List Int))).bind fun bt205 => (if 6 < (t165.length : Int) then ((some (t165.set (6 : Int).toNat (Go.bits .xor .u8 (rd t165 6) 1) : List Int)).bind fun y211 => ((frame_Next.f kj1 y211).bind fun bt212 => (if 3 < (t165.length : Int) then (if 4 < (t165.length : Int) then (if 5 < (t165.length : Int) then (if (Go.bits .or .u32 (Go.bits .or .u32 (Go.bits .or .u32 ((((rd y211 3) % 4294967296) * 16777216) % 4294967296) ((((rd y211 4) % 4294967296) * 65536) % 4294967296)) ((((rd y211 5) % 4294967296) * 256) % 4294967296)) ((Go.bits .xor .u8 (rd y211 6) 1) % 4294967296)) = t181 then (if t190 = 0 then ((scriptoriumref00_EqBytes.f kj1 t188 (([97] : List Int))).bind fun t224 => (if t224 = true then (if t189 = 7 then (if bt197.2.2 = 3 then (if bt205.2.2 = 4 then (some (bt212.2.2 == 40)) else (some false)) else (some false)) else (some false)) else (some false))) else (some false)) else (some false)) else (none)) else (none)) else (none)))) else (none)))) else (none)) = some r := H
            have A22 := Aside0.mk A220
            clear A220
            by_cases c23 : 6 ≤ (t165.length : Int)
            · rw [if_pos c23] at H
              have c23b0 := eq_true c23
              have c23b1 : decide (6 ≤ (t165.length : Int)) = true := decide_eq_true c23
              clear c23
              obtain ⟨y193, hy193⟩ : ∃ y_ : List Int, y_ = (t165.take 6) := ⟨_, rfl⟩
              replace H : ((frame_Next.f kj1 y193).bind fun bt197 => ((frame_Next.f kj1 (([8] : List Int))).bind fun bt205 => (if 6 < (t165.length : Int) then ((some (t165.set (6 : Int).toNat (Go.bits .xor .u8 (rd t165 6) 1) : List Int)).bind fun y211 => ((frame_Next.f kj1 y211).bind fun bt212 => (if 3 < (t165.length : Int) then (if 4 < (t165.length : Int) then (if 5 < (t165.length : Int) then (if (Go.bits .or .u32 (Go.bits .or .u32 (Go.bits .or .u32 ((((rd y211 3) % 4294967296) * 16777216) % 4294967296) ((((rd y211 4) % 4294967296) * 65536) % 4294967296)) ((((rd y211 5) % 4294967296) * 256) % 4294967296)) ((Go.bits .xor .u8 (rd y211 6) 1) % 4294967296)) = t181 then (if t190 = 0 then ((scriptoriumref00_EqBytes.f kj1 t188 (([97] : List Int))).bind fun t224 => (if t224 = true then (if t189 = 7 then (if bt197.2.2 = 3 then (if bt205.2.2 = 4 then (some (bt212.2.2 == 40)) else (some false)) else (some false)) else (some false)) else (some false))) else (some false)) else (some false)) else (none)) else (none)) else (none)))) else (none)))) = some r := by first | (rw [hy193]; with_reducible exact H) | (have H2_ := (Option.bind_some _ _).symm.trans H; rw [hy193]; with_reducible exact H2_) | (have H2_ := (Option.bind_some _ _).symm.trans H; with_reducible exact H2_) | with_reducible exact H | (rw [hy193]; exact H) | exact H
              have Ny193 := Aside0.mk hy193
              clear hy193
              replace H := Option.bind_eq_some_iff.mp H
              obtain ⟨⟨t197, t198, t199⟩, A240, H⟩ := H
              replace H : ((frame_Next.f kj1 (([8] : List Int))).bind fun bt205 => (if 6 < (t165.length : Int) then ((some (t165.set (6 : Int).toNat (Go.bits .xor .u8 (rd t165 6) 1) : List Int)).bind fun y211 => ((frame_Next.f kj1 y211).bind fun bt212 => (if 3 < (t165.length : Int) then (if 4 < (t165.length : Int) then (if 5 < (t165.length : Int) then (if (Go.bits .or .u32 (Go.bits .or .u32 (Go.bits .or .u32 ((((rd y211 3) % 4294967296) * 16777216) % 4294967296) ((((rd y211 4) % 4294967296) * 65536) % 4294967296)) ((((rd y211 5) % 4294967296) * 256) % 4294967296)) ((Go.bits .xor .u8 (rd y211 6) 1) % 4294967296)) = t181 then (if t190 = 0 then ((scriptoriumref00_EqBytes.f kj1 t188 (([97] : List Int))).bind fun t224 => (if t224 = true then (if t189 = 7 then (if t199 = 3 then (if bt205.2.2 = 4 then (some (bt212.2.2 == 40)) else (some false)) else (some false)) else (some false)) else (some false))) else (some false)) else (some false)) else (none)) else (none)) else (none)))) else (none))) = some r := H
              have A24 := Aside0.mk A240
              clear A240
              obtain ⟨y202, hy202⟩ : ∃ y_ : List Int, y_ = (([8] : List Int)) := ⟨_, rfl⟩
              replace H : ((frame_Next.f kj1 y202).bind fun bt205 => (if 6 < (t165.length : Int) then ((some (t165.set (6 : Int).toNat (Go.bits .xor .u8 (rd t165 6) 1) : List Int)).bind fun y211 => ((frame_Next.f kj1 y211).bind fun bt212 => (if 3 < (t165.length : Int) then (if 4 < (t165.length : Int) then (if 5 < (t165.length : Int) then (if (Go.bits .or .u32 (Go.bits .or .u32 (Go.bits .or .u32 ((((rd y211 3) % 4294967296) * 16777216) % 4294967296) ((((rd y211 4) % 4294967296) * 65536) % 4294967296)) ((((rd y211 5) % 4294967296) * 256) % 4294967296)) ((Go.bits .xor .u8 (rd y211 6) 1) % 4294967296)) = t181 then (if t190 = 0 then ((scriptoriumref00_EqBytes.f kj1 t188 (([97] : List Int))).bind fun t224 => (if t224 = true then (if t189 = 7 then (if t199 = 3 then (if bt205.2.2 = 4 then (some (bt212.2.2 == 40)) else (some false)) else (some false)) else (some false)) else (some false))) else (some false)) else (some false)) else (none)) else (none)) else (none)))) else (none))) = some r := by first | (rw [hy202]; with_reducible exact H) | (have H2_ := (Option.bind_some _ _).symm.trans H; rw [hy202]; with_reducible exact H2_) | (have H2_ := (Option.bind_some _ _).symm.trans H; with_reducible exact H2_) | with_reducible exact H | (rw [hy202]; exact H) | exact H
              have Ny202 := Aside0.mk hy202
              clear hy202
              replace H := Option.bind_eq_some_iff.mp H
              obtain ⟨⟨t205, t206, t207⟩, A250, H⟩ := H
              replace H : (if 6 < (t165.length : Int) then ((some (t165.set (6 : Int).toNat (Go.bits .xor .u8 (rd t165 6) 1) : List Int)).bind fun y211 => ((frame_Next.f kj1 y211).bind fun bt212 => (if 3 < (t165.length : Int) then (if 4 < (t165.length : Int) then (if 5 < (t165.length : Int) then (if (Go.bits .or .u32 (Go.bits .or .u32 (Go.bits .or .u32 ((((rd y211 3) % 4294967296) * 16777216) % 4294967296) ((((rd y211 4) % 4294967296) * 65536) % 4294967296)) ((((rd y211 5) % 4294967296) * 256) % 4294967296)) ((Go.bits .xor .u8 (rd y211 6) 1) % 4294967296)) = t181 then (if t190 = 0 then ((scriptoriumref00_EqBytes.f kj1 t188 (([97] : List Int))).bind fun t224 => (if t224 = true then (if t189 = 7 then (if t199 = 3 then (if t207 = 4 then (some (bt212.2.2 == 40)) else (some false)) else (some false)) else (some false)) else (some false))) else (some false)) else (some false)) else (none)) else (none)) else (none)))) else (none)) = some r := H
              have A25 := Aside0.mk A250
              clear A250
              by_cases c26 : 6 < (t165.length : Int)
              · rw [if_pos c26] at H
                have c26b0 : decide (6 < (t165.length : Int)) = true := decide_eq_true c26
                have c26b1 : decide (6 < t165.length) = true := decide_eq_true (by omega)
                clear c26
                obtain ⟨y211, hy211⟩ : ∃ y_ : List Int, y_ = (t165.set (6 : Int).toNat (Go.bits .xor .u8 (rd t165 6) 1)) := ⟨_, rfl⟩
                replace H : ((frame_Next.f kj1 y211).bind fun bt212 => (if 3 < (t165.length : Int) then (if 4 < (t165.length : Int) then (if 5 < (t165.length : Int) then (if (Go.bits .or .u32 (Go.bits .or .u32 (Go.bits .or .u32 ((((rd y211 3) % 4294967296) * 16777216) % 4294967296) ((((rd y211 4) % 4294967296) * 65536) % 4294967296)) ((((rd y211 5) % 4294967296) * 256) % 4294967296)) ((Go.bits .xor .u8 (rd y211 6) 1) % 4294967296)) = t181 then (if t190 = 0 then ((scriptoriumref00_EqBytes.f kj1 t188 (([97] : List Int))).bind fun t224 => (if t224 = true then (if t189 = 7 then (if t199 = 3 then (if t207 = 4 then (some (bt212.2.2 == 40)) else (some false)) else (some false)) else (some false)) else (some false))) else (some false)) else (some false)) else (none)) else (none)) else (none))) = some r := by first | (rw [hy211]; with_reducible exact H) | (have H2_ := (Option.bind_some _ _).symm.trans H; rw [hy211]; with_reducible exact H2_) | (have H2_ := (Option.bind_some _ _).symm.trans H; with_reducible exact H2_) | with_reducible exact H | (rw [hy211]; exact H) | exact H
                have Ny211 := Aside0.mk hy211
                clear hy211
                replace H := Option.bind_eq_some_iff.mp H
                obtain ⟨⟨t212, t213, t214⟩, A280, H⟩ := H
                replace H : (if 3 < (t165.length : Int) then (if 4 < (t165.length : Int) then (if 5 < (t165.length : Int) then (if (Go.bits .or .u32 (Go.bits .or .u32 (Go.bits .or .u32 ((((rd y211 3) % 4294967296) * 16777216) % 4294967296) ((((rd y211 4) % 4294967296) * 65536) % 4294967296)) ((((rd y211 5) % 4294967296) * 256) % 4294967296)) ((Go.bits .xor .u8 (rd y211 6) 1) % 4294967296)) = t181 then (if t190 = 0 then ((scriptoriumref00_EqBytes.f kj1 t188 (([97] : List Int))).bind fun t224 => (if t224 = true then (if t189 = 7 then (if t199 = 3 then (if t207 = 4 then (some (t214 == 40)) else (some false)) else (some false)) else (some false)) else (some false))) else (some false)) else (some false)) else (none)) else (none)) else (none)) = some r := H
                have A28 := Aside0.mk A280
                clear A280
                by_cases c29 : 3 < (t165.length : Int)
                · rw [if_pos c29] at H
                  have c29b0 : decide (3 < (t165.length : Int)) = true := decide_eq_true c29
                  have c29b1 : decide (3 < t165.length) = true := decide_eq_true (by omega)
                  clear c29
                  by_cases c30 : 4 < (t165.length : Int)
                  · rw [if_pos c30] at H
                    have c30b0 : decide (4 < (t165.length : Int)) = true := decide_eq_true c30
                    have c30b1 : decide (4 < t165.length) = true := decide_eq_true (by omega)
                    clear c30
                    by_cases c31 : 5 < (t165.length : Int)
                    · rw [if_pos c31] at H
                      have c31b0 : decide (5 < (t165.length : Int)) = true := decide_eq_true c31
                      have c31b1 : decide (5 < t165.length) = true := decide_eq_true (by omega)
                      clear c31
                      by_cases c32 : (Go.bits .or .u32 (Go.bits .or .u32 (Go.bits .or .u32 ((((rd y211 3) % 4294967296) * 16777216) % 4294967296) ((((rd y211 4) % 4294967296) * 65536) % 4294967296)) ((((rd y211 5) % 4294967296) * 256) % 4294967296)) ((Go.bits .xor .u8 (rd y211 6) 1) % 4294967296)) = t181
                      · rw [if_pos c32] at H
                        have c32b0 : ((Go.bits .or .u32 (Go.bits .or .u32 (Go.bits .or .u32 ((((rd y211 3) % 4294967296) * 16777216) % 4294967296) ((((rd y211 4) % 4294967296) * 65536) % 4294967296)) ((((rd y211 5) % 4294967296) * 256) % 4294967296)) ((Go.bits .xor .u8 (rd y211 6) 1) % 4294967296)) == t181) = true := beq_iff_eq.mpr c32
                        have c32w0 : ((Go.bits .or .u32 (Go.bits .or .u32 (Go.bits .or .u32 (IntKind.u32.wrap ((IntKind.u32.wrap (rd y211 3)) * 16777216)) (IntKind.u32.wrap ((IntKind.u32.wrap (rd y211 4)) * 65536))) (IntKind.u32.wrap ((IntKind.u32.wrap (rd y211 5)) * 256))) (IntKind.u32.wrap (Go.bits .xor .u8 (rd y211 6) 1))) == t181) = true := c32b0
                        have c32b1 : ((Go.bits .or .u32 (Go.bits .or .u32 (Go.bits .or .u32 ((((rd y211 3) % 4294967296) * 16777216) % 4294967296) ((((rd y211 4) % 4294967296) * 65536) % 4294967296)) ((((rd y211 5) % 4294967296) * 256) % 4294967296)) ((Go.bits .xor .u8 (rd y211 6) 1) % 4294967296)) != t181) = false := bne_eq_false_iff_eq.mpr c32
                        have c32w1 : ((Go.bits .or .u32 (Go.bits .or .u32 (Go.bits .or .u32 (IntKind.u32.wrap ((IntKind.u32.wrap (rd y211 3)) * 16777216)) (IntKind.u32.wrap ((IntKind.u32.wrap (rd y211 4)) * 65536))) (IntKind.u32.wrap ((IntKind.u32.wrap (rd y211 5)) * 256))) (IntKind.u32.wrap (Go.bits .xor .u8 (rd y211 6) 1))) != t181) = false := c32b1
                        clear c32
                        by_cases c33 : t190 = 0
                        · rw [if_pos c33] at H
                          have c33b0 : (t190 == 0) = true := beq_iff_eq.mpr c33
                          have c33b1 : (t190 != 0) = false := bne_eq_false_iff_eq.mpr c33
                          clear c33
                          obtain ⟨y221, hy221⟩ : ∃ y_ : List Int, y_ = (([97] : List Int)) := ⟨_, rfl⟩
                          replace H : ((scriptoriumref00_EqBytes.f kj1 t188 y221).bind fun t224 => (if t224 = true then (if t189 = 7 then (if t199 = 3 then (if t207 = 4 then (some (t214 == 40)) else (some false)) else (some false)) else (some false)) else (some false))) = some r := by first | (rw [hy221]; with_reducible exact H) | (have H2_ := (Option.bind_some _ _).symm.trans H; rw [hy221]; with_reducible exact H2_) | (have H2_ := (Option.bind_some _ _).symm.trans H; with_reducible exact H2_) | with_reducible exact H | (rw [hy221]; exact H) | exact H
                          have Ny221 := Aside0.mk hy221
                          clear hy221
                          replace H := Option.bind_eq_some_iff.mp H
                          obtain ⟨t224, A340, H⟩ := H
                          replace H : (if t224 = true then (if t189 = 7 then (if t199 = 3 then (if t207 = 4 then (some (t214 == 40)) else (some false)) else (some false)) else (some false)) else (some false)) = some r := H
                          have A34 := Aside0.mk A340
                          clear A340
                          by_cases c35 : t224 = true
                          · subst c35
                            have H1 : (if t189 = 7 then (if t199 = 3 then (if t207 = 4 then (some (t214 == 40)) else (some false)) else (some false)) else (some false)) = some r := by rw [if_pos rfl] at H; exact H
                            clear H
                            have H := H1
                            clear H1
                            by_cases c36 : t189 = 7
                            · rw [if_pos c36] at H
                              have c36b0 : (t189 == 7) = true := beq_iff_eq.mpr c36
                              have c36b1 : (t189 != 7) = false := bne_eq_false_iff_eq.mpr c36
                              clear c36
                              by_cases c37 : t199 = 3
                              · rw [if_pos c37] at H
                                have c37b0 : (t199 == 3) = true := beq_iff_eq.mpr c37
                                have c37b1 : (t199 != 3) = false := bne_eq_false_iff_eq.mpr c37
                                clear c37
                                by_cases c38 : t207 = 4
                                · rw [if_pos c38] at H
                                  have c38b0 : (t207 == 4) = true := beq_iff_eq.mpr c38
                                  have c38b1 : (t207 != 4) = false := bne_eq_false_iff_eq.mpr c38
                                  clear c38
                                  obtain rfl := Option.some.inj H
                                  obtain ⟨Ao40, co40, eo40⟩ := Kd.R_slice HO_1.out
                                  subst eo40
                                  have q39 : (3 : Int) ≤ ((t165.length : Int) : Int) := of_decide_eq_true (by first | (with_reducible assumption) | assumption)
                                  obtain ⟨i039, hi039, _, hsz39, _⟩ := info_parts info5
                                  have hroom39 : t165.length ≤ co40 := (Kd.R_reads' HO_1.out).2.1
                                  have hC39 : Kd.C (Kd.int .u8) _ Ao40 t165.length t165 := (Kd.R_reads' HO_1.out).2.2
                                  have hcut39 := cut_to (P := Try.prog) 22 5 .i64 Try.underlying22 hi039 Ao40 t165.length co40 3 (by omega) q39 hroom39
                                  have hr39 := Kd.C_take (m := 3) hC39 (by omega)
                                  have hy39 : y177.length = (3 : Int).toNat := (by rw [Ny177.out, List.length_take]; omega)
                                  rw [← Ny177.out] at hr39
                                  rw [← hy39] at hcut39
                                  have HR180 := Aside0.mk hr39
                                  have HC180 := Aside0.mk (show y177.length ≤ co40 from by omega)
                                  clear hr39 hC39 hroom39 hi039 hsz39
                                  have KY39 := Aside0.mk hy39
                                  clear hy39
                                  have KL39 := Aside0.mk (show 3 ≤ t165.length from by omega)
                                  replace q39 := eq_true q39
                                  try go_wp2_with (first | ((with_reducible refine gate_callee (f := 30) rfl ?_); refine goesL_ (some 37) rfl rfl Try.func30 (by kernel_rfl) rfl #[.slice Ao40 y177.length co40] rfl (by (try simp only [List.map_toArray, List.map_cons, List.map_nil]); first | done | rfl | (simp only [List.length_drop, List.length_take]; rfl)) ?_; (with_reducible refine (crc_Of.calls _ _ y177 t181 _ ?side1 ?side2 A19.out).mono ?_); (case side1 => repeat (first | exact (by repeat (first | (with_reducible exact HR180.out) | (with_reducible refine Kd.C_alloc ?_ _) | (with_reducible refine Kd.C_drewN ?_ _) | (with_reducible refine Kd.C_drew ?_) | exact HR180.out)) | (with_reducible refine Kd.C_alloc ?_ _) | (with_reducible refine Kd.C_drewN ?_ _) | (with_reducible refine Kd.C_drew ?_))); (case side2 => exact HC180.out); rintro e w' ⟨rfl, ⟨nd, rfl⟩⟩; refine ⟨_, rfl, ?_⟩; (try (rw [drewN_self wc]; generalize hq_ : World.drewN wc _ = wc; have n0_ : Aside0 (Kd.R (Kd.int .u8) 5 wc w.heap.size (fun _ => True) (.slice Ao40 t165.length co40) t165) := ⟨by rw [← hq_]; exact (by (with_reducible repeat (first | apply Kd.R_alloc | apply Kd.R_drewN | apply Kd.R_drew)); exact HO_1.out)⟩; have n1_ : Aside0 (Below w.heap.size w wc) := ⟨by rw [← hq_]; exact (by repeat (first | (with_reducible first | exact HB.out | apply below_alloc | apply pw_below_drewN | apply below_drew1) | exact HB.out))⟩; have n2_ : Aside0 (Kd.C (Kd.int .u8) wc Ao40 y177.length y177) := ⟨by rw [← hq_]; exact (by repeat (first | (with_reducible exact HR180.out) | (with_reducible refine Kd.C_alloc ?_ _) | (with_reducible refine Kd.C_drewN ?_ _) | (with_reducible refine Kd.C_drew ?_) | exact HR180.out))⟩; clear HO_1 HB HR180 hq_; have HO_1 := n0_; have HB := n1_; have HR180 := n2_; clear n0_ n1_ n2_))) | ((with_reducible refine gate_callee (f := 12) rfl ?_); refine goesL_ (some 40) rfl rfl Try.func12 (by kernel_rfl) rfl #[.slice Ao40 t165.length co40] rfl (by (try simp only [List.map_toArray, List.map_cons, List.map_nil]); first | done | rfl | (simp only [List.length_drop, List.length_take]; rfl)) ?_; (with_reducible refine (scriptoriumref00_CopyBytes.calls _ _ t165 t182 _ ?side1 ?side2 A20.out).mono ?_); (case side1 => repeat (first | exact (Kd.R_reads' HO_1.out).2.2 | (with_reducible refine Kd.C_alloc ?_ _) | (with_reducible refine Kd.C_drewN ?_ _) | (with_reducible refine Kd.C_drew ?_))); (case side2 => exact (Kd.R_reads' HO_1.out).2.1); rintro e w41 ⟨v183, rfl, ho0, hb⟩; refine ⟨_, rfl, ?_⟩; have n0_ := Aside0.mk (Kd.R_elder' (by (with_reducible repeat (first | apply Kd.R_alloc | apply Kd.R_drewN | apply Kd.R_drew)); exact HO_1.out) (Kd.R_base ho0) hb); have n1_ := Aside0.mk (Kd.R_lower (Kd.R_new' ho0 (Kd.R_lt (by (with_reducible repeat (first | apply Kd.R_alloc | apply Kd.R_drewN | apply Kd.R_drew)); exact HO_1.out))) (below_size (by repeat (first | (with_reducible first | exact HB.out | apply below_alloc | apply pw_below_drewN | apply below_drew1) | exact HB.out)))); have n2_ := Aside0.mk (Kd.C_below (by repeat (first | (with_reducible exact HR180.out) | (with_reducible refine Kd.C_alloc ?_ _) | (with_reducible refine Kd.C_drewN ?_ _) | (with_reducible refine Kd.C_drew ?_) | exact HR180.out)) hb); have n3_ := Aside0.mk (below_step (by repeat (first | (with_reducible first | exact HB.out | apply below_alloc | apply pw_below_drewN | apply below_drew1) | exact HB.out)) hb); clear HO_1; clear HR180; clear HB; have HO_1 := n0_; have HO184 := n1_; have HR180 := n2_; have HB := n3_; clear n0_ n1_ n2_ n3_; (try clear hb); (try clear hb2); (try clear hk); (try clear hi); (try clear ho0)) | ((with_reducible refine gate_builtin (b := .append) (xs := #[.tmp 40, .tmp 41]) rfl ?_); (try (refine gate_guard (by rfl) ?_; dsimp only)); at_builtin; refine Kd.R_append (Kd.int .u8) (w0 := w) w.heap.size rfl (.tmp 40) (.tmp 41) 22 5 (.int .u8 0) 1 rfl Try.underlying22 info5 rfl (by decide) (by omega) v183 t182 9 [.int .u8 9] (fun k_ => some k_ ≠ (.slice Ao40 t165.length co40 : Value).ownBlock) (fun _ => False) rfl rfl ?aP (fun _ hk => hk.elim) ?aF ?aO ?aB ?aS ?aL ?_; (case aP => exact rfl); (case aB => exact (by repeat (first | (with_reducible first | exact HB.out | apply below_alloc | apply pw_below_drewN | apply below_drew1) | exact HB.out))); (case aF => exact (fun k_ hk => Kd.fresh' (Kd.R_lt (by (with_reducible repeat (first | apply Kd.R_alloc | apply Kd.R_drewN | apply Kd.R_drew)); exact HO_1.out)) k_ hk)); (case aO => exact (by (with_reducible repeat (first | apply Kd.R_alloc | apply Kd.R_drewN | apply Kd.R_drew)); exact Kd.R_mono HO184.out (fun _ hk => hk.2))); (case aS => exact (below_size (by repeat (first | (with_reducible first | exact HB.out | apply below_alloc | apply pw_below_drewN | apply below_drew1) | exact HB.out)))); (case aL => have := LMc21.out; omega); intro v186 w42 ho hb hg hat; rw [← Ny185.out] at ho; have n0_ := Aside0.mk (Kd.R_after (ok := (fun _ => True)) (by (with_reducible repeat (first | apply Kd.R_alloc | apply Kd.R_drewN | apply Kd.R_drew)); exact HO_1.out) hg hat); have n1_ := Aside0.mk (hb); have n2_ := Aside0.mk ((show Kd.C (Kd.int .u8) w42 Ao40 y177.length y177 from by rw [Ny177.out]; exact Kd.C_take (m := 3) ((Kd.R_reads' (Kd.R_after (ok := (fun _ => True)) (by (with_reducible repeat (first | apply Kd.R_alloc | apply Kd.R_drewN | apply Kd.R_drew)); exact HO_1.out) hg hat)).2.2) KL39.out)); have n3_ := Aside0.mk (ho); clear HO_1; clear HB; clear HR180; clear HO184; have HO_1 := n0_; have HB := n1_; have HR180 := n2_; have HO187 := n3_; clear n0_ n1_ n2_ n3_; clear ho hb hg hat; obtain ⟨Ao43, co43, eo43⟩ := Kd.R_slice HO187.out; subst eo43) | ((with_reducible refine gate_callee (f := 18) rfl ?_); refine goesL_ (some 43) rfl rfl Try.func18 (by kernel_rfl) rfl #[.slice Ao43 y185.length co43] rfl (by (try simp only [List.map_toArray, List.map_cons, List.map_nil]); first | done | rfl | (simp only [List.length_drop, List.length_take]; rfl)) ?_; (with_reducible refine (frame_Next.calls kj1 _ _ y185 t188 t189 t190 _ ?side1 ?side2 A22.out).mono ?_); (case side1 => repeat (first | exact (Kd.R_reads' HO187.out).2.2 | (with_reducible refine Kd.C_alloc ?_ _) | (with_reducible refine Kd.C_drewN ?_ _) | (with_reducible refine Kd.C_drew ?_))); (case side2 => exact (Kd.R_reads' HO187.out).2.1); rintro e w44 ⟨v191, rfl, ho0, hb⟩; refine ⟨_, rfl, ?_⟩; have n0_ := Aside0.mk (Kd.R_elder' (by (with_reducible repeat (first | apply Kd.R_alloc | apply Kd.R_drewN | apply Kd.R_drew)); exact HO_1.out) (Kd.R_base ho0) hb); have n1_ := Aside0.mk (Kd.R_elder' (by (with_reducible repeat (first | apply Kd.R_alloc | apply Kd.R_drewN | apply Kd.R_drew)); exact HO187.out) (Kd.R_base ho0) hb); have n2_ := Aside0.mk (Kd.R_lower (Kd.R_new' (Kd.R_new' ho0 (Kd.R_lt (by (with_reducible repeat (first | apply Kd.R_alloc | apply Kd.R_drewN | apply Kd.R_drew)); exact HO_1.out))) (Kd.R_lt (by (with_reducible repeat (first | apply Kd.R_alloc | apply Kd.R_drewN | apply Kd.R_drew)); exact HO187.out))) (below_size (by repeat (first | (with_reducible first | exact HB.out | apply below_alloc | apply pw_below_drewN | apply below_drew1) | exact HB.out)))); have n3_ := Aside0.mk (Kd.C_below (by repeat (first | (with_reducible exact HR180.out) | (with_reducible refine Kd.C_alloc ?_ _) | (with_reducible refine Kd.C_drewN ?_ _) | (with_reducible refine Kd.C_drew ?_) | exact HR180.out)) hb); have n4_ := Aside0.mk (below_step (by repeat (first | (with_reducible first | exact HB.out | apply below_alloc | apply pw_below_drewN | apply below_drew1) | exact HB.out)) hb); clear HO_1; clear HO187; clear HR180; clear HB; have HO_1 := n0_; have HO187 := n1_; have HO192 := n2_; have HR180 := n3_; have HB := n4_; clear n0_ n1_ n2_ n3_ n4_; (try clear hb); (try clear hb2); (try clear hk); (try clear hi); (try clear ho0); have q45 : (6 : Int) ≤ ((t165.length : Int) : Int) := of_decide_eq_true (by first | (with_reducible assumption) | assumption); obtain ⟨i045, hi045, _, hsz45, _⟩ := info_parts info5; have hroom45 : t165.length ≤ co40 := (Kd.R_reads' HO_1.out).2.1; have hC45 : Kd.C (Kd.int .u8) _ Ao40 t165.length t165 := (Kd.R_reads' HO_1.out).2.2; have hcut45 := cut_to (P := Try.prog) 22 5 .i64 Try.underlying22 hi045 Ao40 t165.length co40 6 (by omega) q45 hroom45; have hr45 := Kd.C_take (m := 6) hC45 (by omega); have hy45 : y193.length = (6 : Int).toNat := (by rw [Ny193.out, List.length_take]; omega); rw [← Ny193.out] at hr45; rw [← hy45] at hcut45; have HR196 := Aside0.mk hr45; have HC196 := Aside0.mk (show y193.length ≤ co40 from by omega); clear hr45 hC45 hroom45 hi045 hsz45; have KY45 := Aside0.mk hy45; clear hy45; have KL45 := Aside0.mk (show 6 ≤ t165.length from by omega); replace q45 := eq_true q45) | ((with_reducible refine gate_callee (f := 18) rfl ?_); refine goesL_ (some 50) rfl rfl Try.func18 (by kernel_rfl) rfl #[.slice Ao40 y193.length co40] rfl (by (try simp only [List.map_toArray, List.map_cons, List.map_nil]); first | done | rfl | (simp only [List.length_drop, List.length_take]; rfl)) ?_; (with_reducible refine (frame_Next.calls kj1 _ _ y193 t197 t198 t199 _ ?side1 ?side2 A24.out).mono ?_); (case side1 => repeat (first | exact (by repeat (first | (with_reducible exact HR196.out) | (with_reducible refine Kd.C_alloc ?_ _) | (with_reducible refine Kd.C_drewN ?_ _) | (with_reducible refine Kd.C_drew ?_) | exact HR196.out)) | (with_reducible refine Kd.C_alloc ?_ _) | (with_reducible refine Kd.C_drewN ?_ _) | (with_reducible refine Kd.C_drew ?_))); (case side2 => exact HC196.out); rintro e w46 ⟨v200, rfl, ho0, hb⟩; refine ⟨_, rfl, ?_⟩; have n0_ := Aside0.mk (Kd.R_elder' (by (with_reducible repeat (first | apply Kd.R_alloc | apply Kd.R_drewN | apply Kd.R_drew)); exact HO_1.out) (Kd.R_base ho0) hb); have n1_ := Aside0.mk (Kd.R_elder' (by (with_reducible repeat (first | apply Kd.R_alloc | apply Kd.R_drewN | apply Kd.R_drew)); exact HO187.out) (Kd.R_base ho0) hb); have n2_ := Aside0.mk (Kd.R_elder' (by (with_reducible repeat (first | apply Kd.R_alloc | apply Kd.R_drewN | apply Kd.R_drew)); exact HO192.out) (Kd.R_base ho0) hb); have n3_ := Aside0.mk (Kd.R_lower (Kd.R_new' (Kd.R_new' (Kd.R_new' ho0 (Kd.R_lt (by (with_reducible repeat (first | apply Kd.R_alloc | apply Kd.R_drewN | apply Kd.R_drew)); exact HO_1.out))) (Kd.R_lt (by (with_reducible repeat (first | apply Kd.R_alloc | apply Kd.R_drewN | apply Kd.R_drew)); exact HO187.out))) (Kd.R_lt (by (with_reducible repeat (first | apply Kd.R_alloc | apply Kd.R_drewN | apply Kd.R_drew)); exact HO192.out))) (below_size (by repeat (first | (with_reducible first | exact HB.out | apply below_alloc | apply pw_below_drewN | apply below_drew1) | exact HB.out)))); have n4_ := Aside0.mk (Kd.C_below (by repeat (first | (with_reducible exact HR180.out) | (with_reducible refine Kd.C_alloc ?_ _) | (with_reducible refine Kd.C_drewN ?_ _) | (with_reducible refine Kd.C_drew ?_) | exact HR180.out)) hb); have n5_ := Aside0.mk (Kd.C_below (by repeat (first | (with_reducible exact HR196.out) | (with_reducible refine Kd.C_alloc ?_ _) | (with_reducible refine Kd.C_drewN ?_ _) | (with_reducible refine Kd.C_drew ?_) | exact HR196.out)) hb); have n6_ := Aside0.mk (below_step (by repeat (first | (with_reducible first | exact HB.out | apply below_alloc | apply pw_below_drewN | apply below_drew1) | exact HB.out)) hb); clear HO_1; clear HO187; clear HO192; clear HR180; clear HR196; clear HB; have HO_1 := n0_; have HO187 := n1_; have HO192 := n2_; have HO201 := n3_; have HR180 := n4_; have HR196 := n5_; have HB := n6_; clear n0_ n1_ n2_ n3_ n4_ n5_ n6_; (try clear hb); (try clear hb2); (try clear hk); (try clear hi); (try clear ho0)) | ((with_reducible refine gate_dst (N := 55) rfl ?_); (try (refine gate_guard (by rfl) ?_; dsimp only)); refine Kd.R_lit (Kd.int .u8) _ 5 ?hg (N := 55) ?hd (xs := ([8] : List Int)) (inner := [.int .u8 8]) (ok := fun _ => True) (okp := fun _ => True) ?hr ?hp (fun _ hk => hk) trivial (Below.refl _ _) (Nat.le_refl _) (by simp) ?_; (case hd => rfl); (case hg => rfl); (case hr => first | (go_simp; done) | (go_simp; rfl)); (case hp => exact (Reps.one (show Kd.M (Kd.int .u8) _ _ _ 8 [.int .u8 8] from rfl) (Reps.none _ _))); intro v203 w47 ho48 hb hg_ hnew_; clear hg_ hnew_; (first | rw [← Ny202.out] at ho48 | (simp only [Int.reduceToNat] at ho48; rw [← Ny202.out] at ho48)); have n0_ := Aside0.mk (Kd.R_elder' (by (with_reducible repeat (first | apply Kd.R_alloc | apply Kd.R_drewN | apply Kd.R_drew)); exact HO_1.out) (Kd.R_base ho48) hb); have n1_ := Aside0.mk (Kd.R_elder' (by (with_reducible repeat (first | apply Kd.R_alloc | apply Kd.R_drewN | apply Kd.R_drew)); exact HO187.out) (Kd.R_base ho48) hb); have n2_ := Aside0.mk (Kd.R_elder' (by (with_reducible repeat (first | apply Kd.R_alloc | apply Kd.R_drewN | apply Kd.R_drew)); exact HO192.out) (Kd.R_base ho48) hb); have n3_ := Aside0.mk (Kd.R_elder' (by (with_reducible repeat (first | apply Kd.R_alloc | apply Kd.R_drewN | apply Kd.R_drew)); exact HO201.out) (Kd.R_base ho48) hb); have n4_ := Aside0.mk (Kd.R_lower (Kd.R_new' (Kd.R_new' (Kd.R_new' (Kd.R_new' ho48 (Kd.R_lt (by (with_reducible repeat (first | apply Kd.R_alloc | apply Kd.R_drewN | apply Kd.R_drew)); exact HO_1.out))) (Kd.R_lt (by (with_reducible repeat (first | apply Kd.R_alloc | apply Kd.R_drewN | apply Kd.R_drew)); exact HO187.out))) (Kd.R_lt (by (with_reducible repeat (first | apply Kd.R_alloc | apply Kd.R_drewN | apply Kd.R_drew)); exact HO192.out))) (Kd.R_lt (by (with_reducible repeat (first | apply Kd.R_alloc | apply Kd.R_drewN | apply Kd.R_drew)); exact HO201.out))) (below_size (by repeat (first | (with_reducible first | exact HB.out | apply below_alloc | apply pw_below_drewN | apply below_drew1) | exact HB.out)))); have n5_ := Aside0.mk (Kd.C_below (by repeat (first | (with_reducible exact HR180.out) | (with_reducible refine Kd.C_alloc ?_ _) | (with_reducible refine Kd.C_drewN ?_ _) | (with_reducible refine Kd.C_drew ?_) | exact HR180.out)) hb); have n6_ := Aside0.mk (Kd.C_below (by repeat (first | (with_reducible exact HR196.out) | (with_reducible refine Kd.C_alloc ?_ _) | (with_reducible refine Kd.C_drewN ?_ _) | (with_reducible refine Kd.C_drew ?_) | exact HR196.out)) hb); have n7_ := Aside0.mk (below_step (by repeat (first | (with_reducible first | exact HB.out | apply below_alloc | apply pw_below_drewN | apply below_drew1) | exact HB.out)) hb); clear HO_1; clear HO187; clear HO192; clear HO201; clear HR180; clear HR196; clear HB; have HO_1 := n0_; have HO187 := n1_; have HO192 := n2_; have HO201 := n3_; have HO204 := n4_; have HR180 := n5_; have HR196 := n6_; have HB := n7_; clear n0_ n1_ n2_ n3_ n4_ n5_ n6_ n7_; clear hb ho48; obtain ⟨Ao49, co49, eo49⟩ := Kd.R_slice HO204.out; subst eo49) | ((with_reducible refine gate_callee (f := 18) rfl ?_); refine goesL_ (some 56) rfl rfl Try.func18 (by kernel_rfl) rfl #[.slice Ao49 y202.length co49] rfl (by (try simp only [List.map_toArray, List.map_cons, List.map_nil]); first | done | rfl | (simp only [List.length_drop, List.length_take]; rfl)) ?_; (with_reducible refine (frame_Next.calls kj1 _ _ y202 t205 t206 t207 _ ?side1 ?side2 A25.out).mono ?_); (case side1 => repeat (first | exact (Kd.R_reads' HO204.out).2.2 | (with_reducible refine Kd.C_alloc ?_ _) | (with_reducible refine Kd.C_drewN ?_ _) | (with_reducible refine Kd.C_drew ?_))); (case side2 => exact (Kd.R_reads' HO204.out).2.1); rintro e w50 ⟨v208, rfl, ho0, hb⟩; refine ⟨_, rfl, ?_⟩; have n0_ := Aside0.mk (Kd.R_elder' (by (with_reducible repeat (first | apply Kd.R_alloc | apply Kd.R_drewN | apply Kd.R_drew)); exact HO_1.out) (Kd.R_base ho0) hb); have n1_ := Aside0.mk (Kd.R_elder' (by (with_reducible repeat (first | apply Kd.R_alloc | apply Kd.R_drewN | apply Kd.R_drew)); exact HO187.out) (Kd.R_base ho0) hb); have n2_ := Aside0.mk (Kd.R_elder' (by (with_reducible repeat (first | apply Kd.R_alloc | apply Kd.R_drewN | apply Kd.R_drew)); exact HO192.out) (Kd.R_base ho0) hb); have n3_ := Aside0.mk (Kd.R_elder' (by (with_reducible repeat (first | apply Kd.R_alloc | apply Kd.R_drewN | apply Kd.R_drew)); exact HO201.out) (Kd.R_base ho0) hb); have n4_ := Aside0.mk (Kd.R_elder' (by (with_reducible repeat (first | apply Kd.R_alloc | apply Kd.R_drewN | apply Kd.R_drew)); exact HO204.out) (Kd.R_base ho0) hb); have n5_ := Aside0.mk (Kd.R_lower (Kd.R_new' (Kd.R_new' (Kd.R_new' (Kd.R_new' (Kd.R_new' ho0 (Kd.R_lt (by (with_reducible repeat (first | apply Kd.R_alloc | apply Kd.R_drewN | apply Kd.R_drew)); exact HO_1.out))) (Kd.R_lt (by (with_reducible repeat (first | apply Kd.R_alloc | apply Kd.R_drewN | apply Kd.R_drew)); exact HO187.out))) (Kd.R_lt (by (with_reducible repeat (first | apply Kd.R_alloc | apply Kd.R_drewN | apply Kd.R_drew)); exact HO192.out))) (Kd.R_lt (by (with_reducible repeat (first | apply Kd.R_alloc | apply Kd.R_drewN | apply Kd.R_drew)); exact HO201.out))) (Kd.R_lt (by (with_reducible repeat (first | apply Kd.R_alloc | apply Kd.R_drewN | apply Kd.R_drew)); exact HO204.out))) (below_size (by repeat (first | (with_reducible first | exact HB.out | apply below_alloc | apply pw_below_drewN | apply below_drew1) | exact HB.out)))); have n6_ := Aside0.mk (Kd.C_below (by repeat (first | (with_reducible exact HR180.out) | (with_reducible refine Kd.C_alloc ?_ _) | (with_reducible refine Kd.C_drewN ?_ _) | (with_reducible refine Kd.C_drew ?_) | exact HR180.out)) hb); have n7_ := Aside0.mk (Kd.C_below (by repeat (first | (with_reducible exact HR196.out) | (with_reducible refine Kd.C_alloc ?_ _) | (with_reducible refine Kd.C_drewN ?_ _) | (with_reducible refine Kd.C_drew ?_) | exact HR196.out)) hb); have n8_ := Aside0.mk (below_step (by repeat (first | (with_reducible first | exact HB.out | apply below_alloc | apply pw_below_drewN | apply below_drew1) | exact HB.out)) hb); clear HO_1; clear HO187; clear HO192; clear HO201; clear HO204; clear HR180; clear HR196; clear HB; have HO_1 := n0_; have HO187 := n1_; have HO192 := n2_; have HO201 := n3_; have HO204 := n4_; have HO209 := n5_; have HR180 := n6_; have HR196 := n7_; have HB := n8_; clear n0_ n1_ n2_ n3_ n4_ n5_ n6_ n7_ n8_; (try clear hb); (try clear hb2); (try clear hk); (try clear hi); (try clear ho0); have p210 : 0 ≤ (6 : Int) := (by omega); have q210 : 6 < (t165.length : Int) := of_decide_eq_true (by first | (with_reducible assumption) | assumption); obtain ⟨ad210, e210, hx210_0⟩ := Kd.at_int (Kd.R_reads' HO_1.out).2.2 6 p210 q210; cases e210; (try simp only [show (6 : Int).toNat = 6 from rfl, Nat.reduceMul, Nat.reduceEqDiff, Go.Addr.add, ↓reduceIte] at hx210_0); have qi210 : (6 < t165.length) = True := eq_true (by omega); (try rw [show ((6 : Int)).toNat = 6 from rfl] at hx210_0); replace p210 := eq_true p210; replace q210 := eq_true q210; have p27 : 0 ≤ (6 : Int) := (by omega); have q27 : (6 : Int) < ((t165.length : Int) : Int) := of_decide_eq_true (by first | (with_reducible assumption) | assumption); have qi27 : (6 < t165.length) = True := eq_true (by omega); obtain ⟨go27, co27, eo27, gb27, gl27, cl27, HG27⟩ := Kd.R_form HO_1.out (by omega); (first | cases eo27 | (injection eo27 with ea_ en_ ec_; (first | subst ea_ | (injection ea_ with ea_; subst ea_)); subst ec_; clear en_)); have GB27 := Aside0.mk gb27; have GG27 := Aside0.mk HG27; clear gb27 gl27 HG27; (first | simp only [add_plain] at hx210_0 | skip); obtain ⟨hx27_0, hf27_0⟩ := Kd.R_celln 0 HO_1.out (6 : Int) p27 q27; (try rw [show ((6 : Int)).toNat = 6 from rfl] at hx27_0); (try simp only [Nat.reduceMul, Nat.zero_mul, Nat.zero_add, Nat.reduceAdd] at hx27_0); (try rw [show ((6 : Int)).toNat = 6 from rfl] at hf27_0); (try simp only [Nat.reduceMul, Nat.zero_mul, Nat.zero_add, Nat.reduceAdd] at hf27_0); replace p27 := eq_true p27; replace q27 := eq_true q27; have n_ := Aside0.mk (Kd.R_mono (ok' := (fun k_ => some k_ ≠ (.slice Ao43 y185.length co43 : Value).ownBlock ∧ some k_ ≠ (v191 : Value).ownBlock ∧ some k_ ≠ (v200 : Value).ownBlock ∧ some k_ ≠ (.slice Ao49 y202.length co49 : Value).ownBlock ∧ some k_ ≠ (v208 : Value).ownBlock)) HO_1.out (fun k_ hk => ⟨hk.1.1.1.1.2, ⟨hk.1.1.1.2, ⟨hk.1.1.2, ⟨hk.1.2, hk.2⟩⟩⟩⟩)); clear HO_1; have HO_1 := n_; clear n_; obtain ⟨hy51_, hz51_⟩ := Kd.R_celln 0 HO_1.out (6 : Int) (by omega) (of_decide_eq_true (by first | (with_reducible assumption) | assumption)); (try simp only [Int.reduceToNat, Int.toNat_zero, Int.toNat_ofNat, Nat.reduceMul, Nat.zero_mul, Nat.zero_add] at hy51_ hz51_); (try rw [show ((6 : Int)).toNat = 6 from rfl] at hy51_); (try rw [show ((6 : Int)).toNat = 6 from rfl] at hz51_); have HP51 := Kd.R_putg HO_1.out (6 : Int) (Go.bits .xor .u8 (rd t165 6) 1)) | ((with_reducible refine gate_store (t := 5) (p := 65) rfl ?_); refine store_event (t := 5) (p := 65) (v := ?vo_w52) (w1 := (w50.setCell ⟨go27, (6 : Int).toNat, none⟩ (.int .u8 (Go.bits .xor .u8 (rd t165 6) 1)))) ?hg ?ho ?hn ?hr ?_; (case ho => rfl); (case hg => rfl); (case hn => rfl); (case hr => first | (go_simp; done) | (go_simp; rfl)); intro w52 hw; have hg : w50.grownBy w52 (some go27) := (by rw [hw]; exact HP51.2); have hp_ : Kd.R (Kd.int .u8) 5 w52 w.heap.size (fun k_ => some k_ ≠ (.slice Ao43 y185.length co43 : Value).ownBlock ∧ some k_ ≠ (v191 : Value).ownBlock ∧ some k_ ≠ (v200 : Value).ownBlock ∧ some k_ ≠ (.slice Ao49 y202.length co49 : Value).ownBlock ∧ some k_ ≠ (v208 : Value).ownBlock) (.slice (some ⟨go27, 0, none⟩) t165.length co40) y211 := (by rw [hw, Ny211.out]; exact HP51.1); clear HP51; have n0_ := Aside0.mk (hp_); have n1_ := Aside0.mk (Kd.R_after (v := (.slice (some ⟨go27, 0, none⟩) t165.length co40)) (v1 := (.slice (some ⟨go27, 0, none⟩) t165.length co40)) (ok := (fun k_ => some k_ ≠ (v191 : Value).ownBlock ∧ some k_ ≠ (v200 : Value).ownBlock ∧ some k_ ≠ (.slice Ao49 y202.length co49 : Value).ownBlock ∧ some k_ ≠ (v208 : Value).ownBlock)) (by (with_reducible repeat (first | apply Kd.R_alloc | apply Kd.R_drewN | apply Kd.R_drew)); exact Kd.R_mono HO187.out (fun _ hk => ⟨⟨hk.1.1.1.2, ⟨hk.1.1.2, ⟨hk.1.2, hk.2⟩⟩⟩, hk.1.1.1.1⟩)) hg (.inl rfl)); have n2_ := Aside0.mk (Kd.R_after (v := (.slice (some ⟨go27, 0, none⟩) t165.length co40)) (v1 := (.slice (some ⟨go27, 0, none⟩) t165.length co40)) (ok := (fun k_ => some k_ ≠ (.slice Ao43 y185.length co43 : Value).ownBlock ∧ some k_ ≠ (v200 : Value).ownBlock ∧ some k_ ≠ (.slice Ao49 y202.length co49 : Value).ownBlock ∧ some k_ ≠ (v208 : Value).ownBlock)) (by (with_reducible repeat (first | apply Kd.R_alloc | apply Kd.R_drewN | apply Kd.R_drew)); exact Kd.R_mono HO192.out (fun _ hk => ⟨⟨hk.1.1.1.2, ⟨hk.1.1.2, ⟨hk.1.2, hk.2⟩⟩⟩, hk.1.1.1.1.2⟩)) hg (.inl rfl)); have n3_ := Aside0.mk (Kd.R_after (v := (.slice (some ⟨go27, 0, none⟩) t165.length co40)) (v1 := (.slice (some ⟨go27, 0, none⟩) t165.length co40)) (ok := (fun k_ => some k_ ≠ (.slice Ao43 y185.length co43 : Value).ownBlock ∧ some k_ ≠ (v191 : Value).ownBlock ∧ some k_ ≠ (.slice Ao49 y202.length co49 : Value).ownBlock ∧ some k_ ≠ (v208 : Value).ownBlock)) (by (with_reducible repeat (first | apply Kd.R_alloc | apply Kd.R_drewN | apply Kd.R_drew)); exact Kd.R_mono HO201.out (fun _ hk => ⟨⟨hk.1.1.1.2, ⟨hk.1.1.2, ⟨hk.1.2, hk.2⟩⟩⟩, hk.1.1.1.1.2⟩)) hg (.inl rfl)); have n4_ := Aside0.mk (Kd.R_after (v := (.slice (some ⟨go27, 0, none⟩) t165.length co40)) (v1 := (.slice (some ⟨go27, 0, none⟩) t165.length co40)) (ok := (fun k_ => some k_ ≠ (.slice Ao43 y185.length co43 : Value).ownBlock ∧ some k_ ≠ (v191 : Value).ownBlock ∧ some k_ ≠ (v200 : Value).ownBlock ∧ some k_ ≠ (v208 : Value).ownBlock)) (by (with_reducible repeat (first | apply Kd.R_alloc | apply Kd.R_drewN | apply Kd.R_drew)); exact Kd.R_mono HO204.out (fun _ hk => ⟨⟨hk.1.1.1.2, ⟨hk.1.1.2, ⟨hk.1.2, hk.2⟩⟩⟩, hk.1.1.1.1.2⟩)) hg (.inl rfl)); have n5_ := Aside0.mk (Kd.R_after (v := (.slice (some ⟨go27, 0, none⟩) t165.length co40)) (v1 := (.slice (some ⟨go27, 0, none⟩) t165.length co40)) (ok := (fun k_ => some k_ ≠ (.slice Ao43 y185.length co43 : Value).ownBlock ∧ some k_ ≠ (v191 : Value).ownBlock ∧ some k_ ≠ (v200 : Value).ownBlock ∧ some k_ ≠ (.slice Ao49 y202.length co49 : Value).ownBlock)) (by (with_reducible repeat (first | apply Kd.R_alloc | apply Kd.R_drewN | apply Kd.R_drew)); exact Kd.R_mono HO209.out (fun _ hk => ⟨⟨hk.1.1.1.2, ⟨hk.1.1.2, ⟨hk.1.2, hk.2⟩⟩⟩, hk.1.1.1.1.2⟩)) hg (.inl rfl)); have n6_ := Aside0.mk ((by rw [hw]; exact below_set (HB.out) GB27.out : Below w.heap.size w w52)); clear HO_1; clear HO187; clear HO192; clear HO201; clear HO204; clear HO209; clear HB; have HO_1 := n0_; have HO187 := n1_; have HO192 := n2_; have HO201 := n3_; have HO204 := n4_; have HO209 := n5_; have HB := n6_; clear n0_ n1_ n2_ n3_ n4_ n5_ n6_; clear hg hw hp_) | ((with_reducible refine gate_callee (f := 18) rfl ?_); refine goesL_ (some 68) rfl rfl Try.func18 (by kernel_rfl) rfl #[.slice (some ⟨go27, 0, none⟩) y211.length co40] rfl (by (try simp only [List.map_toArray, List.map_cons, List.map_nil]); first | done | (rw [show y211.length = t165.length from (Kd.R_reads' HO_1.out).1.symm] <;> rfl) | rfl | (simp only [List.length_drop, List.length_take]; rfl)) ?_; (with_reducible refine (frame_Next.calls kj1 _ _ y211 t212 t213 t214 _ ?side1 ?side2 A28.out).mono ?_); (case side1 => repeat (first | exact (Kd.R_reads' HO_1.out).2.2 | (with_reducible refine Kd.C_alloc ?_ _) | (with_reducible refine Kd.C_drewN ?_ _) | (with_reducible refine Kd.C_drew ?_))); (case side2 => rw [show y211.length = t165.length from (Kd.R_reads' HO_1.out).1.symm]; exact (Kd.R_reads' HO_1.out).2.1); rintro e w53 ⟨v215, rfl, ho0, hb⟩; refine ⟨_, rfl, ?_⟩; have n0_ := Aside0.mk (Kd.R_elder' (by (with_reducible repeat (first | apply Kd.R_alloc | apply Kd.R_drewN | apply Kd.R_drew)); exact HO_1.out) (Kd.R_base ho0) hb); have n1_ := Aside0.mk (Kd.R_elder' (by (with_reducible repeat (first | apply Kd.R_alloc | apply Kd.R_drewN | apply Kd.R_drew)); exact HO187.out) (Kd.R_base ho0) hb); have n2_ := Aside0.mk (Kd.R_elder' (by (with_reducible repeat (first | apply Kd.R_alloc | apply Kd.R_drewN | apply Kd.R_drew)); exact HO192.out) (Kd.R_base ho0) hb); have n3_ := Aside0.mk (Kd.R_elder' (by (with_reducible repeat (first | apply Kd.R_alloc | apply Kd.R_drewN | apply Kd.R_drew)); exact HO201.out) (Kd.R_base ho0) hb); have n4_ := Aside0.mk (Kd.R_elder' (by (with_reducible repeat (first | apply Kd.R_alloc | apply Kd.R_drewN | apply Kd.R_drew)); exact HO204.out) (Kd.R_base ho0) hb); have n5_ := Aside0.mk (Kd.R_elder' (by (with_reducible repeat (first | apply Kd.R_alloc | apply Kd.R_drewN | apply Kd.R_drew)); exact HO209.out) (Kd.R_base ho0) hb); have n6_ := Aside0.mk (Kd.R_lower (Kd.R_new' (Kd.R_new' (Kd.R_new' (Kd.R_new' (Kd.R_new' (Kd.R_new' ho0 (Kd.R_lt (by (with_reducible repeat (first | apply Kd.R_alloc | apply Kd.R_drewN | apply Kd.R_drew)); exact HO_1.out))) (Kd.R_lt (by (with_reducible repeat (first | apply Kd.R_alloc | apply Kd.R_drewN | apply Kd.R_drew)); exact HO187.out))) (Kd.R_lt (by (with_reducible repeat (first | apply Kd.R_alloc | apply Kd.R_drewN | apply Kd.R_drew)); exact HO192.out))) (Kd.R_lt (by (with_reducible repeat (first | apply Kd.R_alloc | apply Kd.R_drewN | apply Kd.R_drew)); exact HO201.out))) (Kd.R_lt (by (with_reducible repeat (first | apply Kd.R_alloc | apply Kd.R_drewN | apply Kd.R_drew)); exact HO204.out))) (Kd.R_lt (by (with_reducible repeat (first | apply Kd.R_alloc | apply Kd.R_drewN | apply Kd.R_drew)); exact HO209.out))) (below_size (by repeat (first | (with_reducible first | exact HB.out | apply below_alloc | apply pw_below_drewN | apply below_drew1) | exact HB.out)))); have n7_ := Aside0.mk (below_step (by repeat (first | (with_reducible first | exact HB.out | apply below_alloc | apply pw_below_drewN | apply below_drew1) | exact HB.out)) hb); clear HO_1; clear HO187; clear HO192; clear HO201; clear HO204; clear HO209; clear HB; have HO_1 := n0_; have HO187 := n1_; have HO192 := n2_; have HO201 := n3_; have HO204 := n4_; have HO209 := n5_; have HO216 := n6_; have HB := n7_; clear n0_ n1_ n2_ n3_ n4_ n5_ n6_ n7_; (try clear hb); (try clear hb2); (try clear hk); (try clear hi); (try clear ho0)))
                                  have n0_ := Aside0.mk (Kd.R_drew HO_1.out)
                                  have n1_ := Aside0.mk (Kd.R_drew HO187.out)
                                  have n2_ := Aside0.mk (Kd.R_drew HO192.out)
                                  have n3_ := Aside0.mk (Kd.R_drew HO201.out)
                                  have n4_ := Aside0.mk (Kd.R_drew HO204.out)
                                  have n5_ := Aside0.mk (Kd.R_drew HO209.out)
                                  have n6_ := Aside0.mk (Kd.R_drew HO216.out)
                                  have n7_ := Aside0.mk (below_drew1 HB.out)
                                  clear HO_1
                                  clear HO187
                                  clear HO192
                                  clear HO201
                                  clear HO204
                                  clear HO209
                                  clear HO216
                                  clear HB
                                  have HO_1 := n0_
                                  have HO187 := n1_
                                  have HO192 := n2_
                                  have HO201 := n3_
                                  have HO204 := n4_
                                  have HO209 := n5_
                                  have HO216 := n6_
                                  have HB := n7_
                                  clear n0_ n1_ n2_ n3_ n4_ n5_ n6_ n7_
                                  have p217 : 0 ≤ (3 : Int) := (by omega)
                                  have q217 : 3 < (y211.length : Int) := (by have h_ : (3 : Int) < ((t165.length : Int) : Int) := of_decide_eq_true (by first | (with_reducible assumption) | assumption); first | (have e_ := (Kd.R_reads' HO_1.out).1; omega) | simpa only [Ny211.out, List.length_set] using h_)
                                  have ql217 : ((3 : Int) < ((t165.length : Int) : Int)) = True := eq_true (of_decide_eq_true (by first | (with_reducible assumption) | assumption))
                                  (try have qn217 : (3 < t165.length) = True := eq_true (by have h_ : (3 : Int) < ((t165.length : Int) : Int) := of_decide_eq_true (by first | (with_reducible assumption) | assumption); omega))
                                  obtain ⟨ad217, e217, hx217_0⟩ := Kd.at_int (Kd.R_reads' HO_1.out).2.2 3 p217 q217
                                  obtain rfl : (⟨go27, 0, none⟩ : Addr) = ad217 := (by injection e217)
                                  (first | simp only [add_plain] at hx217_0 | simp only [add_at] at hx217_0 | simp only [Addr.add, Nat.zero_add] at hx217_0 | skip)
                                  have qi217 : (3 < y211.length) = True := eq_true (by omega)
                                  (try rw [show ((3 : Int)).toNat = 3 from rfl] at hx217_0)
                                  replace p217 := eq_true p217
                                  replace q217 := eq_true q217
                                  have p218 : 0 ≤ (4 : Int) := (by omega)
                                  have q218 : 4 < (y211.length : Int) := (by have h_ : (4 : Int) < ((t165.length : Int) : Int) := of_decide_eq_true (by first | (with_reducible assumption) | assumption); first | (have e_ := (Kd.R_reads' HO_1.out).1; omega) | simpa only [Ny211.out, List.length_set] using h_)
                                  have ql218 : ((4 : Int) < ((t165.length : Int) : Int)) = True := eq_true (of_decide_eq_true (by first | (with_reducible assumption) | assumption))
                                  (try have qn218 : (4 < t165.length) = True := eq_true (by have h_ : (4 : Int) < ((t165.length : Int) : Int) := of_decide_eq_true (by first | (with_reducible assumption) | assumption); omega))
                                  obtain ⟨ad218, e218, hx218_0⟩ := Kd.at_int (Kd.R_reads' HO_1.out).2.2 4 p218 q218
                                  obtain rfl : (⟨go27, 0, none⟩ : Addr) = ad218 := (by injection e218)
                                  (first | simp only [add_plain] at hx218_0 | simp only [add_at] at hx218_0 | simp only [Addr.add, Nat.zero_add] at hx218_0 | skip)
                                  have qi218 : (4 < y211.length) = True := eq_true (by omega)
                                  (try rw [show ((4 : Int)).toNat = 4 from rfl] at hx218_0)
                                  replace p218 := eq_true p218
                                  replace q218 := eq_true q218
                                  have p219 : 0 ≤ (5 : Int) := (by omega)
                                  have q219 : 5 < (y211.length : Int) := (by have h_ : (5 : Int) < ((t165.length : Int) : Int) := of_decide_eq_true (by first | (with_reducible assumption) | assumption); first | (have e_ := (Kd.R_reads' HO_1.out).1; omega) | simpa only [Ny211.out, List.length_set] using h_)
                                  have ql219 : ((5 : Int) < ((t165.length : Int) : Int)) = True := eq_true (of_decide_eq_true (by first | (with_reducible assumption) | assumption))
                                  (try have qn219 : (5 < t165.length) = True := eq_true (by have h_ : (5 : Int) < ((t165.length : Int) : Int) := of_decide_eq_true (by first | (with_reducible assumption) | assumption); omega))
                                  obtain ⟨ad219, e219, hx219_0⟩ := Kd.at_int (Kd.R_reads' HO_1.out).2.2 5 p219 q219
                                  obtain rfl : (⟨go27, 0, none⟩ : Addr) = ad219 := (by injection e219)
                                  (first | simp only [add_plain] at hx219_0 | simp only [add_at] at hx219_0 | simp only [Addr.add, Nat.zero_add] at hx219_0 | skip)
                                  have qi219 : (5 < y211.length) = True := eq_true (by omega)
                                  (try rw [show ((5 : Int)).toNat = 5 from rfl] at hx219_0)
                                  replace p219 := eq_true p219
                                  replace q219 := eq_true q219
                                  have p220 : 0 ≤ (6 : Int) := (by omega)
                                  have q220 : 6 < (y211.length : Int) := (by have h_ : (6 : Int) < ((t165.length : Int) : Int) := of_decide_eq_true (by first | (with_reducible assumption) | assumption); first | (have e_ := (Kd.R_reads' HO_1.out).1; omega) | simpa only [Ny211.out, List.length_set] using h_)
                                  have ql220 : ((6 : Int) < ((t165.length : Int) : Int)) = True := eq_true (of_decide_eq_true (by first | (with_reducible assumption) | assumption))
                                  (try have qn220 : (6 < t165.length) = True := eq_true (by have h_ : (6 : Int) < ((t165.length : Int) : Int) := of_decide_eq_true (by first | (with_reducible assumption) | assumption); omega))
                                  obtain ⟨ad220, e220, hx220_0⟩ := Kd.at_int (Kd.R_reads' HO_1.out).2.2 6 p220 q220
                                  obtain rfl : (⟨go27, 0, none⟩ : Addr) = ad220 := (by injection e220)
                                  (first | simp only [add_plain] at hx220_0 | simp only [add_at] at hx220_0 | simp only [Addr.add, Nat.zero_add] at hx220_0 | skip)
                                  have qi220 : (6 < y211.length) = True := eq_true (by omega)
                                  (try rw [show ((6 : Int)).toNat = 6 from rfl] at hx220_0)
                                  replace p220 := eq_true p220
                                  replace q220 := eq_true q220
                                  refine start_ (n := 51) (S := fun w' => w'.cell? ⟨go27, 3, none⟩ = some (.int .u8 (rd y211 3)) ∧ w'.cell? ⟨go27, 4, none⟩ = some (.int .u8 (rd y211 4)) ∧ w'.cell? ⟨go27, 5, none⟩ = some (.int .u8 (rd y211 5)) ∧ w'.cell? ⟨go27, 6, none⟩ = some (.int .u8 (rd y211 6))) (ds := []) #[false, false, false, false, false, false, false, false, false, false, false, false, false, false, false, false, false, false, false, false, false, false, false, false, false, false, false, false, false, false, false, false, false, false, false, false, false, false, false, false, false, false, false, false, false, false, false, false, false, false, false] (by kernel_rfl) rfl rfl ⟨hx217_0, hx218_0, hx219_0, hx220_0⟩ (fun hHeld => ?_); refine with_tabW scriptoriumlaw04_works_in.tab10 scriptoriumlaw04_works_in.bits10 (fun HT_ HW_ => ?_)
                                  generalize w53.drew = w54 at HO_1 HO187 HO192 HO201 HO204 HO209 HO216 HB hx217_0 hx218_0 hx219_0 hx220_0 hHeld ⊢
                                  refine pure_ (i := 0) (N := some 72) (v := ?_) (a' := ?_) #[true, false, false, false, false, false, false, false, false, false, false, false, false, false, false, false, false, false, false, false, false, false, false, false, false, false, false, false, false, false, false, false, false, false, false, false, false, false, false, false, false, false, false, false, false, false, false, false, false, false, false] rfl rfl (any_of HT_.out (by kernel_rfl)) (fun _ _ _ h => h) (Or.inl ⟨by rfl, ?_⟩) ?_ ?_
                                  rotate_left
                                  · intro w'
                                    go_simp
                                    with_reducible rfl
                                  rotate_left
                                  · simp only [Act.put, List.setIfInBounds_toArray, List.set_cons_zero, List.set_cons_succ, i64_w, i32_w]
                                    rfl
                                  refine pure_ (i := 1) (N := some 73) (v := ?_) (a' := ?_) #[true, true, false, false, false, false, false, false, false, false, false, false, false, false, false, false, false, false, false, false, false, false, false, false, false, false, false, false, false, false, false, false, false, false, false, false, false, false, false, false, false, false, false, false, false, false, false, false, false, false, false] rfl rfl (any_of HT_.out (by kernel_rfl)) (fun _ _ _ h => h) (Or.inl ⟨by rfl, ?_⟩) ?_ ?_
                                  rotate_left
                                  · intro w'
                                    go_simp
                                    with_reducible rfl
                                  rotate_left
                                  · simp only [Act.put, List.setIfInBounds_toArray, List.set_cons_zero, List.set_cons_succ, i64_w, i32_w]
                                    rfl
                                  refine pure_ (i := 5) (N := some 77) (v := ?_) (a' := ?_) #[true, true, false, false, false, true, false, false, false, false, false, false, false, false, false, false, false, false, false, false, false, false, false, false, false, false, false, false, false, false, false, false, false, false, false, false, false, false, false, false, false, false, false, false, false, false, false, false, false, false, false] rfl rfl (any_of HT_.out (by kernel_rfl)) (fun _ _ _ h => h) (Or.inl ⟨by rfl, ?_⟩) ?_ ?_
                                  rotate_left
                                  · intro w'
                                    go_simp
                                    with_reducible rfl
                                  rotate_left
                                  · simp only [Act.put, List.setIfInBounds_toArray, List.set_cons_zero, List.set_cons_succ, i64_w, i32_w]
                                    rfl
                                  refine pure_ (i := 6) (N := some 78) (v := ?_) (a' := ?_) #[true, true, false, false, false, true, true, false, false, false, false, false, false, false, false, false, false, false, false, false, false, false, false, false, false, false, false, false, false, false, false, false, false, false, false, false, false, false, false, false, false, false, false, false, false, false, false, false, false, false, false] rfl rfl (any_of HT_.out (by kernel_rfl)) (fun _ _ _ h => h) (Or.inl ⟨by rfl, ?_⟩) ?_ ?_
                                  rotate_left
                                  · intro w'
                                    go_simp
                                    with_reducible rfl
                                  rotate_left
                                  · simp only [Act.put, List.setIfInBounds_toArray, List.set_cons_zero, List.set_cons_succ, i64_w, i32_w]
                                    rfl
                                  refine pure_ (i := 11) (N := some 83) (v := ?_) (a' := ?_) #[true, true, false, false, false, true, true, false, false, false, false, true, false, false, false, false, false, false, false, false, false, false, false, false, false, false, false, false, false, false, false, false, false, false, false, false, false, false, false, false, false, false, false, false, false, false, false, false, false, false, false] rfl rfl (any_of HT_.out (by kernel_rfl)) (fun _ _ _ h => h) (Or.inl ⟨by rfl, ?_⟩) ?_ ?_
                                  rotate_left
                                  · intro w'
                                    go_simp
                                    with_reducible rfl
                                  rotate_left
                                  · simp only [Act.put, List.setIfInBounds_toArray, List.set_cons_zero, List.set_cons_succ, i64_w, i32_w]
                                    rfl
                                  refine pure_ (i := 12) (N := some 84) (v := ?_) (a' := ?_) #[true, true, false, false, false, true, true, false, false, false, false, true, true, false, false, false, false, false, false, false, false, false, false, false, false, false, false, false, false, false, false, false, false, false, false, false, false, false, false, false, false, false, false, false, false, false, false, false, false, false, false] rfl rfl (any_of HT_.out (by kernel_rfl)) (fun _ _ _ h => h) (Or.inl ⟨by rfl, ?_⟩) ?_ ?_
                                  rotate_left
                                  · intro w'
                                    go_simp
                                    with_reducible rfl
                                  rotate_left
                                  · simp only [Act.put, List.setIfInBounds_toArray, List.set_cons_zero, List.set_cons_succ, i64_w, i32_w]
                                    rfl
                                  refine pure_ (i := 17) (N := some 89) (v := ?_) (a' := ?_) #[true, true, false, false, false, true, true, false, false, false, false, true, true, false, false, false, false, true, false, false, false, false, false, false, false, false, false, false, false, false, false, false, false, false, false, false, false, false, false, false, false, false, false, false, false, false, false, false, false, false, false] rfl rfl (any_of HT_.out (by kernel_rfl)) (fun _ _ _ h => h) (Or.inl ⟨by rfl, ?_⟩) ?_ ?_
                                  rotate_left
                                  · intro w'
                                    go_simp
                                    with_reducible rfl
                                  rotate_left
                                  · simp only [Act.put, List.setIfInBounds_toArray, List.set_cons_zero, List.set_cons_succ, i64_w, i32_w]
                                    rfl
                                  refine pure_ (i := 18) (N := some 90) (v := ?_) (a' := ?_) #[true, true, false, false, false, true, true, false, false, false, false, true, true, false, false, false, false, true, true, false, false, false, false, false, false, false, false, false, false, false, false, false, false, false, false, false, false, false, false, false, false, false, false, false, false, false, false, false, false, false, false] rfl rfl (any_of HT_.out (by kernel_rfl)) (fun _ _ _ h => h) (Or.inl ⟨by rfl, ?_⟩) ?_ ?_
                                  rotate_left
                                  · intro w'
                                    go_simp
                                    with_reducible rfl
                                  rotate_left
                                  · simp only [Act.put, List.setIfInBounds_toArray, List.set_cons_zero, List.set_cons_succ, i64_w, i32_w]
                                    rfl
                                  refine pure_ (i := 23) (N := some 95) (v := ?_) (a' := ?_) #[true, true, false, false, false, true, true, false, false, false, false, true, true, false, false, false, false, true, true, false, false, false, false, true, false, false, false, false, false, false, false, false, false, false, false, false, false, false, false, false, false, false, false, false, false, false, false, false, false, false, false] rfl rfl (any_of HT_.out (by kernel_rfl)) (fun _ _ _ h => h) (Or.inl ⟨by rfl, ?_⟩) ?_ ?_
                                  rotate_left
                                  · intro w'
                                    go_simp
                                    with_reducible rfl
                                  rotate_left
                                  · simp only [Act.put, List.setIfInBounds_toArray, List.set_cons_zero, List.set_cons_succ, i64_w, i32_w]
                                    rfl
                                  refine take_ (i := 2) (N := some 74) (v := ?_) (a' := ?_) #[true, true, true, false, false, true, true, false, false, false, false, true, true, false, false, false, false, true, true, false, false, false, false, true, false, false, false, false, false, false, false, false, false, false, false, false, false, false, false, false, false, false, false, false, false, false, false, false, false, false, false] rfl rfl (take_ofW HT_.out HW_.out (by kernel_rfl)) (fun _ _ _ h => h) (Or.inl ⟨by rfl, ?_⟩) hHeld ?_ ?_
                                  rotate_left
                                  · rintro w' ⟨s0, s1, s2, s3⟩
                                    go_simp
                                    with_reducible rfl
                                  rotate_left
                                  · simp only [Act.put, List.setIfInBounds_toArray, List.set_cons_zero, List.set_cons_succ, i64_w, i32_w]
                                    rfl
                                  refine pure_ (i := 3) (N := some 75) (v := ?_) (a' := ?_) #[true, true, true, true, false, true, true, false, false, false, false, true, true, false, false, false, false, true, true, false, false, false, false, true, false, false, false, false, false, false, false, false, false, false, false, false, false, false, false, false, false, false, false, false, false, false, false, false, false, false, false] rfl rfl (any_of HT_.out (by kernel_rfl)) (fun _ _ _ h => h) (Or.inl ⟨by rfl, ?_⟩) ?_ ?_
                                  rotate_left
                                  · intro w'
                                    go_simp
                                    with_reducible rfl
                                  rotate_left
                                  · simp only [Act.put, List.setIfInBounds_toArray, List.set_cons_zero, List.set_cons_succ, i64_w, i32_w]
                                    rfl
                                  refine pure_ (i := 4) (N := some 76) (v := ?_) (a' := ?_) #[true, true, true, true, true, true, true, false, false, false, false, true, true, false, false, false, false, true, true, false, false, false, false, true, false, false, false, false, false, false, false, false, false, false, false, false, false, false, false, false, false, false, false, false, false, false, false, false, false, false, false] rfl rfl (any_of HT_.out (by kernel_rfl)) (fun _ _ _ h => h) (Or.inl ⟨by rfl, ?_⟩) ?_ ?_
                                  rotate_left
                                  · intro w'
                                    go_simp
                                    with_reducible rfl
                                  rotate_left
                                  · simp only [Act.put, List.setIfInBounds_toArray, List.set_cons_zero, List.set_cons_succ, i64_w, i32_w]
                                    rfl
                                  refine take_ (i := 7) (N := some 79) (v := ?_) (a' := ?_) #[true, true, true, true, true, true, true, true, false, false, false, true, true, false, false, false, false, true, true, false, false, false, false, true, false, false, false, false, false, false, false, false, false, false, false, false, false, false, false, false, false, false, false, false, false, false, false, false, false, false, false] rfl rfl (take_ofW HT_.out HW_.out (by kernel_rfl)) (fun _ _ _ h => h) (Or.inl ⟨by rfl, ?_⟩) hHeld ?_ ?_
                                  rotate_left
                                  · rintro w' ⟨s0, s1, s2, s3⟩
                                    go_simp
                                    with_reducible rfl
                                  rotate_left
                                  · simp only [Act.put, List.setIfInBounds_toArray, List.set_cons_zero, List.set_cons_succ, i64_w, i32_w]
                                    rfl
                                  refine pure_ (i := 8) (N := some 80) (v := ?_) (a' := ?_) #[true, true, true, true, true, true, true, true, true, false, false, true, true, false, false, false, false, true, true, false, false, false, false, true, false, false, false, false, false, false, false, false, false, false, false, false, false, false, false, false, false, false, false, false, false, false, false, false, false, false, false] rfl rfl (any_of HT_.out (by kernel_rfl)) (fun _ _ _ h => h) (Or.inl ⟨by rfl, ?_⟩) ?_ ?_
                                  rotate_left
                                  · intro w'
                                    go_simp
                                    with_reducible rfl
                                  rotate_left
                                  · simp only [Act.put, List.setIfInBounds_toArray, List.set_cons_zero, List.set_cons_succ, i64_w, i32_w]
                                    rfl
                                  refine pure_ (i := 9) (N := some 81) (v := ?_) (a' := ?_) #[true, true, true, true, true, true, true, true, true, true, false, true, true, false, false, false, false, true, true, false, false, false, false, true, false, false, false, false, false, false, false, false, false, false, false, false, false, false, false, false, false, false, false, false, false, false, false, false, false, false, false] rfl rfl (any_of HT_.out (by kernel_rfl)) (fun _ _ _ h => h) (Or.inl ⟨by rfl, ?_⟩) ?_ ?_
                                  rotate_left
                                  · intro w'
                                    go_simp
                                    with_reducible rfl
                                  rotate_left
                                  · simp only [Act.put, List.setIfInBounds_toArray, List.set_cons_zero, List.set_cons_succ, i64_w, i32_w]
                                    rfl
                                  refine pure_ (i := 10) (N := some 82) (v := ?_) (a' := ?_) #[true, true, true, true, true, true, true, true, true, true, true, true, true, false, false, false, false, true, true, false, false, false, false, true, false, false, false, false, false, false, false, false, false, false, false, false, false, false, false, false, false, false, false, false, false, false, false, false, false, false, false] rfl rfl (any_of HT_.out (by kernel_rfl)) (fun _ _ _ h => h) (Or.inl ⟨by rfl, ?_⟩) ?_ ?_
                                  rotate_left
                                  · intro w'
                                    go_simp
                                    with_reducible rfl
                                  rotate_left
                                  · simp only [Act.put, List.setIfInBounds_toArray, List.set_cons_zero, List.set_cons_succ, i64_w, i32_w]
                                    rfl
                                  refine take_ (i := 13) (N := some 85) (v := ?_) (a' := ?_) #[true, true, true, true, true, true, true, true, true, true, true, true, true, true, false, false, false, true, true, false, false, false, false, true, false, false, false, false, false, false, false, false, false, false, false, false, false, false, false, false, false, false, false, false, false, false, false, false, false, false, false] rfl rfl (take_ofW HT_.out HW_.out (by kernel_rfl)) (fun _ _ _ h => h) (Or.inl ⟨by rfl, ?_⟩) hHeld ?_ ?_
                                  rotate_left
                                  · rintro w' ⟨s0, s1, s2, s3⟩
                                    go_simp
                                    with_reducible rfl
                                  rotate_left
                                  · simp only [Act.put, List.setIfInBounds_toArray, List.set_cons_zero, List.set_cons_succ, i64_w, i32_w]
                                    rfl
                                  refine pure_ (i := 14) (N := some 86) (v := ?_) (a' := ?_) #[true, true, true, true, true, true, true, true, true, true, true, true, true, true, true, false, false, true, true, false, false, false, false, true, false, false, false, false, false, false, false, false, false, false, false, false, false, false, false, false, false, false, false, false, false, false, false, false, false, false, false] rfl rfl (any_of HT_.out (by kernel_rfl)) (fun _ _ _ h => h) (Or.inl ⟨by rfl, ?_⟩) ?_ ?_
                                  rotate_left
                                  · intro w'
                                    go_simp
                                    with_reducible rfl
                                  rotate_left
                                  · simp only [Act.put, List.setIfInBounds_toArray, List.set_cons_zero, List.set_cons_succ, i64_w, i32_w]
                                    rfl
                                  refine pure_ (i := 15) (N := some 87) (v := ?_) (a' := ?_) #[true, true, true, true, true, true, true, true, true, true, true, true, true, true, true, true, false, true, true, false, false, false, false, true, false, false, false, false, false, false, false, false, false, false, false, false, false, false, false, false, false, false, false, false, false, false, false, false, false, false, false] rfl rfl (any_of HT_.out (by kernel_rfl)) (fun _ _ _ h => h) (Or.inl ⟨by rfl, ?_⟩) ?_ ?_
                                  rotate_left
                                  · intro w'
                                    go_simp
                                    with_reducible rfl
                                  rotate_left
                                  · simp only [Act.put, List.setIfInBounds_toArray, List.set_cons_zero, List.set_cons_succ, i64_w, i32_w]
                                    rfl
                                  refine pure_ (i := 16) (N := some 88) (v := ?_) (a' := ?_) #[true, true, true, true, true, true, true, true, true, true, true, true, true, true, true, true, true, true, true, false, false, false, false, true, false, false, false, false, false, false, false, false, false, false, false, false, false, false, false, false, false, false, false, false, false, false, false, false, false, false, false] rfl rfl (any_of HT_.out (by kernel_rfl)) (fun _ _ _ h => h) (Or.inl ⟨by rfl, ?_⟩) ?_ ?_
                                  rotate_left
                                  · intro w'
                                    go_simp
                                    with_reducible rfl
                                  rotate_left
                                  · simp only [Act.put, List.setIfInBounds_toArray, List.set_cons_zero, List.set_cons_succ, i64_w, i32_w]
                                    rfl
                                  refine take_ (i := 19) (N := some 91) (v := ?_) (a' := ?_) #[true, true, true, true, true, true, true, true, true, true, true, true, true, true, true, true, true, true, true, true, false, false, false, true, false, false, false, false, false, false, false, false, false, false, false, false, false, false, false, false, false, false, false, false, false, false, false, false, false, false, false] rfl rfl (take_ofW HT_.out HW_.out (by kernel_rfl)) (fun _ _ _ h => h) (Or.inl ⟨by rfl, ?_⟩) hHeld ?_ ?_
                                  rotate_left
                                  · rintro w' ⟨s0, s1, s2, s3⟩
                                    go_simp
                                    with_reducible rfl
                                  rotate_left
                                  · simp only [Act.put, List.setIfInBounds_toArray, List.set_cons_zero, List.set_cons_succ, i64_w, i32_w]
                                    rfl
                                  refine pure_ (i := 20) (N := some 92) (v := ?_) (a' := ?_) #[true, true, true, true, true, true, true, true, true, true, true, true, true, true, true, true, true, true, true, true, true, false, false, true, false, false, false, false, false, false, false, false, false, false, false, false, false, false, false, false, false, false, false, false, false, false, false, false, false, false, false] rfl rfl (any_of HT_.out (by kernel_rfl)) (fun _ _ _ h => h) (Or.inl ⟨by rfl, ?_⟩) ?_ ?_
                                  rotate_left
                                  · intro w'
                                    go_simp
                                    with_reducible rfl
                                  rotate_left
                                  · simp only [Act.put, List.setIfInBounds_toArray, List.set_cons_zero, List.set_cons_succ, i64_w, i32_w]
                                    rfl
                                  refine pure_ (i := 21) (N := some 93) (v := ?_) (a' := ?_) #[true, true, true, true, true, true, true, true, true, true, true, true, true, true, true, true, true, true, true, true, true, true, false, true, false, false, false, false, false, false, false, false, false, false, false, false, false, false, false, false, false, false, false, false, false, false, false, false, false, false, false] rfl rfl (any_of HT_.out (by kernel_rfl)) (fun _ _ _ h => h) (Or.inl ⟨by rfl, ?_⟩) ?_ ?_
                                  rotate_left
                                  · intro w'
                                    go_simp
                                    with_reducible rfl
                                  rotate_left
                                  · simp only [Act.put, List.setIfInBounds_toArray, List.set_cons_zero, List.set_cons_succ, i64_w, i32_w]
                                    rfl
                                  refine pure_ (i := 22) (N := some 94) (v := ?_) (a' := ?_) #[true, true, true, true, true, true, true, true, true, true, true, true, true, true, true, true, true, true, true, true, true, true, true, true, false, false, false, false, false, false, false, false, false, false, false, false, false, false, false, false, false, false, false, false, false, false, false, false, false, false, false] rfl rfl (any_of HT_.out (by kernel_rfl)) (fun _ _ _ h => h) (Or.inl ⟨by rfl, ?_⟩) ?_ ?_
                                  rotate_left
                                  · intro w'
                                    go_simp
                                    with_reducible rfl
                                  rotate_left
                                  · simp only [Act.put, List.setIfInBounds_toArray, List.set_cons_zero, List.set_cons_succ, i64_w, i32_w]
                                    rfl
                                  refine pure_ (i := 24) (N := some 96) (v := ?_) (a' := ?_) #[true, true, true, true, true, true, true, true, true, true, true, true, true, true, true, true, true, true, true, true, true, true, true, true, true, false, false, false, false, false, false, false, false, false, false, false, false, false, false, false, false, false, false, false, false, false, false, false, false, false, false] rfl rfl (any_of HT_.out (by kernel_rfl)) (fun _ _ _ h => h) (Or.inl ⟨by rfl, ?_⟩) ?_ ?_
                                  rotate_left
                                  · intro w'
                                    go_simp
                                    with_reducible rfl
                                  rotate_left
                                  · simp only [Act.put, List.setIfInBounds_toArray, List.set_cons_zero, List.set_cons_succ, i64_w, i32_w]
                                    rfl
                                  refine pure_ (i := 25) (N := some 97) (v := ?_) (a' := ?_) #[true, true, true, true, true, true, true, true, true, true, true, true, true, true, true, true, true, true, true, true, true, true, true, true, true, true, false, false, false, false, false, false, false, false, false, false, false, false, false, false, false, false, false, false, false, false, false, false, false, false, false] rfl rfl (any_of HT_.out (by kernel_rfl)) (fun _ _ _ h => h) (Or.inl ⟨by rfl, ?_⟩) ?_ ?_
                                  rotate_left
                                  · intro w'
                                    go_simp
                                    with_reducible rfl
                                  rotate_left
                                  · simp only [Act.put, List.setIfInBounds_toArray, List.set_cons_zero, List.set_cons_succ, i64_w, i32_w]
                                    rfl
                                  refine pure_ (i := 26) (N := some 98) (v := ?_) (a' := ?_) #[true, true, true, true, true, true, true, true, true, true, true, true, true, true, true, true, true, true, true, true, true, true, true, true, true, true, true, false, false, false, false, false, false, false, false, false, false, false, false, false, false, false, false, false, false, false, false, false, false, false, false] rfl rfl (any_of HT_.out (by kernel_rfl)) (fun _ _ _ h => h) (Or.inl ⟨by rfl, ?_⟩) ?_ ?_
                                  rotate_left
                                  · intro w'
                                    go_simp
                                    with_reducible rfl
                                  rotate_left
                                  · simp only [Act.put, List.setIfInBounds_toArray, List.set_cons_zero, List.set_cons_succ, i64_w, i32_w]
                                    rfl
                                  refine pure_ (i := 27) (N := some 99) (v := ?_) (a' := ?_) #[true, true, true, true, true, true, true, true, true, true, true, true, true, true, true, true, true, true, true, true, true, true, true, true, true, true, true, true, false, false, false, false, false, false, false, false, false, false, false, false, false, false, false, false, false, false, false, false, false, false, false] rfl rfl (any_of HT_.out (by kernel_rfl)) (fun _ _ _ h => h) (Or.inl ⟨by rfl, ?_⟩) ?_ ?_
                                  rotate_left
                                  · intro w'
                                    go_simp
                                    with_reducible rfl
                                  rotate_left
                                  · simp only [Act.put, List.setIfInBounds_toArray, List.set_cons_zero, List.set_cons_succ, i64_w, i32_w]
                                    rfl
                                  refine pure_ (i := 28) (N := some 100) (v := ?_) (a' := ?_) #[true, true, true, true, true, true, true, true, true, true, true, true, true, true, true, true, true, true, true, true, true, true, true, true, true, true, true, true, true, false, false, false, false, false, false, false, false, false, false, false, false, false, false, false, false, false, false, false, false, false, false] rfl rfl (any_of HT_.out (by kernel_rfl)) (fun _ _ _ h => h) (Or.inl ⟨by rfl, ?_⟩) ?_ ?_
                                  rotate_left
                                  · intro w'
                                    go_simp
                                    with_reducible rfl
                                  rotate_left
                                  · simp only [Act.put, List.setIfInBounds_toArray, List.set_cons_zero, List.set_cons_succ, i64_w, i32_w]
                                    rfl
                                  refine pure_ (i := 29) (N := some 101) (v := ?_) (a' := ?_) #[true, true, true, true, true, true, true, true, true, true, true, true, true, true, true, true, true, true, true, true, true, true, true, true, true, true, true, true, true, true, false, false, false, false, false, false, false, false, false, false, false, false, false, false, false, false, false, false, false, false, false] rfl rfl (any_of HT_.out (by kernel_rfl)) (fun _ _ _ h => h) (Or.inl ⟨by rfl, ?_⟩) ?_ ?_
                                  rotate_left
                                  · intro w'
                                    go_simp
                                    with_reducible rfl
                                  rotate_left
                                  · simp only [Act.put, List.setIfInBounds_toArray, List.set_cons_zero, List.set_cons_succ, i64_w, i32_w]
                                    rfl
                                  refine pure_ (i := 30) (N := some 102) (v := ?_) (a' := ?_) #[true, true, true, true, true, true, true, true, true, true, true, true, true, true, true, true, true, true, true, true, true, true, true, true, true, true, true, true, true, true, true, false, false, false, false, false, false, false, false, false, false, false, false, false, false, false, false, false, false, false, false] rfl rfl (any_of HT_.out (by kernel_rfl)) (fun _ _ _ h => h) (Or.inl ⟨by rfl, ?_⟩) ?_ ?_
                                  rotate_left
                                  · intro w'
                                    go_simp
                                    with_reducible rfl
                                  rotate_left
                                  · simp only [Act.put, List.setIfInBounds_toArray, List.set_cons_zero, List.set_cons_succ, i64_w, i32_w]
                                    rfl
                                  refine one_ (i := 31) (N := some 103) #[true, true, true, true, true, true, true, true, true, true, true, true, true, true, true, true, true, true, true, true, true, true, true, true, true, true, true, true, true, true, true, true, false, false, false, false, false, false, false, false, false, false, false, false, false, false, false, false, false, false, false] rfl rfl (one_of HT_.out (by kernel_rfl)) (by decide) (fun K hK => ?_)
                                  refine Kd.R_lit_step (Kd.int .u8) _ 5 ?hg (N := 103) ?hd (xs := ([97] : List Int)) (inner := [.int .u8 97]) (ok := fun _ => True) (okp := fun _ => True) ?hr ?hp (fun _ hk => hk) trivial (Below.refl _ _) (Nat.le_refl _) (by simp) ?_; (case hd => rfl); (case hg => rfl); (case hr => first | (go_simp; done) | (go_simp; rfl)); (case hp => exact (Reps.one (show Kd.M (Kd.int .u8) _ _ _ 97 [.int .u8 97] from rfl) (Reps.none _ _)))
                                  intro v222 w55 ho56 hb hg_ hnew_
                                  have HS0_ := (hb.cell (World.block_lt_of_cell? _ _ (hHeld.1))).trans (hHeld.1)
                                  have HS1_ := (hb.cell (World.block_lt_of_cell? _ _ (hHeld.2.1))).trans (hHeld.2.1)
                                  have HS2_ := (hb.cell (World.block_lt_of_cell? _ _ (hHeld.2.2.1))).trans (hHeld.2.2.1)
                                  have HS3_ := (hb.cell (World.block_lt_of_cell? _ _ (hHeld.2.2.2))).trans (hHeld.2.2.2)
                                  clear hg_ hnew_
                                  (first | rw [← Ny221.out] at ho56 | (simp only [Int.reduceToNat] at ho56; rw [← Ny221.out] at ho56))
                                  have n0_ := Aside0.mk (Kd.R_elder' (by (with_reducible repeat (first | apply Kd.R_alloc | apply Kd.R_drewN | apply Kd.R_drew)); exact HO_1.out) (Kd.R_base ho56) hb)
                                  have n1_ := Aside0.mk (Kd.R_elder' (by (with_reducible repeat (first | apply Kd.R_alloc | apply Kd.R_drewN | apply Kd.R_drew)); exact HO187.out) (Kd.R_base ho56) hb)
                                  have n2_ := Aside0.mk (Kd.R_elder' (by (with_reducible repeat (first | apply Kd.R_alloc | apply Kd.R_drewN | apply Kd.R_drew)); exact HO192.out) (Kd.R_base ho56) hb)
                                  have n3_ := Aside0.mk (Kd.R_elder' (by (with_reducible repeat (first | apply Kd.R_alloc | apply Kd.R_drewN | apply Kd.R_drew)); exact HO201.out) (Kd.R_base ho56) hb)
                                  have n4_ := Aside0.mk (Kd.R_elder' (by (with_reducible repeat (first | apply Kd.R_alloc | apply Kd.R_drewN | apply Kd.R_drew)); exact HO204.out) (Kd.R_base ho56) hb)
                                  have n5_ := Aside0.mk (Kd.R_elder' (by (with_reducible repeat (first | apply Kd.R_alloc | apply Kd.R_drewN | apply Kd.R_drew)); exact HO209.out) (Kd.R_base ho56) hb)
                                  have n6_ := Aside0.mk (Kd.R_elder' (by (with_reducible repeat (first | apply Kd.R_alloc | apply Kd.R_drewN | apply Kd.R_drew)); exact HO216.out) (Kd.R_base ho56) hb)
                                  have n7_ := Aside0.mk (Kd.R_lower (Kd.R_new' (Kd.R_new' (Kd.R_new' (Kd.R_new' (Kd.R_new' (Kd.R_new' (Kd.R_new' ho56 (Kd.R_lt (by (with_reducible repeat (first | apply Kd.R_alloc | apply Kd.R_drewN | apply Kd.R_drew)); exact HO_1.out))) (Kd.R_lt (by (with_reducible repeat (first | apply Kd.R_alloc | apply Kd.R_drewN | apply Kd.R_drew)); exact HO187.out))) (Kd.R_lt (by (with_reducible repeat (first | apply Kd.R_alloc | apply Kd.R_drewN | apply Kd.R_drew)); exact HO192.out))) (Kd.R_lt (by (with_reducible repeat (first | apply Kd.R_alloc | apply Kd.R_drewN | apply Kd.R_drew)); exact HO201.out))) (Kd.R_lt (by (with_reducible repeat (first | apply Kd.R_alloc | apply Kd.R_drewN | apply Kd.R_drew)); exact HO204.out))) (Kd.R_lt (by (with_reducible repeat (first | apply Kd.R_alloc | apply Kd.R_drewN | apply Kd.R_drew)); exact HO209.out))) (Kd.R_lt (by (with_reducible repeat (first | apply Kd.R_alloc | apply Kd.R_drewN | apply Kd.R_drew)); exact HO216.out))) (below_size (by repeat (first | (with_reducible first | exact HB.out | apply below_alloc | apply pw_below_drewN | apply below_drew1) | exact HB.out))))
                                  have n8_ := Aside0.mk (below_step (by repeat (first | (with_reducible first | exact HB.out | apply below_alloc | apply pw_below_drewN | apply below_drew1) | exact HB.out)) hb)
                                  clear HO_1
                                  clear HO187
                                  clear HO192
                                  clear HO201
                                  clear HO204
                                  clear HO209
                                  clear HO216
                                  clear HB
                                  have HO_1 := n0_
                                  have HO187 := n1_
                                  have HO192 := n2_
                                  have HO201 := n3_
                                  have HO204 := n4_
                                  have HO209 := n5_
                                  have HO216 := n6_
                                  have HO223 := n7_
                                  have HB := n8_
                                  clear n0_ n1_ n2_ n3_ n4_ n5_ n6_ n7_ n8_
                                  clear hb ho56
                                  obtain ⟨Ao57, co57, eo57⟩ := Kd.R_slice HO192.out
                                  (first | subst eo57 | (injection eo57 with f1_ f2_ f3_; have f4_ := f1_.symm; have f5_ := f3_.symm; clear f1_ f2_ f3_; subst f4_; subst f5_))
                                  obtain ⟨Ao58, co58, eo58⟩ := Kd.R_slice HO223.out
                                  (first | subst eo58 | (injection eo58 with f1_ f2_ f3_; have f4_ := f1_.symm; have f5_ := f3_.symm; clear f1_ f2_ f3_; subst f4_; subst f5_))
                                  refine hK.out _ _ ⟨HS0_, HS1_, HS2_, HS3_⟩ (fun hHeld => ?_)
                                  clear hK K
                                  refine norm_ (a' := ?_) ?_ ?_
                                  rotate_left
                                  · show Act.put _ (some 103) _ = _
                                    simp only [Act.put, List.setIfInBounds_toArray, List.set_cons_zero, List.set_cons_succ, i64_w, i32_w]
                                    rfl
                                  refine one_ (i := 32) (N := some 104) #[true, true, true, true, true, true, true, true, true, true, true, true, true, true, true, true, true, true, true, true, true, true, true, true, true, true, true, true, true, true, true, true, true, false, false, false, false, false, false, false, false, false, false, false, false, false, false, false, false, false, false] rfl rfl (one_of HT_.out (by kernel_rfl)) (by decide) (fun K hK => ?_)
                                  refine goes_ Try.func15 (by kernel_rfl) rfl #[.slice Ao57 t188.length co57, .slice Ao58 y221.length co58] (by rfl) rfl rfl (by (try simp only [List.map_toArray, List.map_cons, List.map_nil]); first | done | rfl | (simp only [List.length_drop, List.length_take]; rfl)) ?_
                                  with_reducible refine (scriptoriumref00_EqBytes.calls kj1 _ _ t188 _ _ y221 true _ ?side1 ?side2 ?side3 ?side4 A34.out).mono ?_
                                  (case side1 => repeat (first | exact (Kd.R_reads' HO192.out).2.2 | (with_reducible refine Kd.C_alloc ?_ _) | (with_reducible refine Kd.C_drewN ?_ _) | (with_reducible refine Kd.C_drew ?_)))
                                  (case side2 => exact (Kd.R_reads' HO192.out).2.1)
                                  (case side3 => repeat (first | exact (Kd.R_reads' HO223.out).2.2 | (with_reducible refine Kd.C_alloc ?_ _) | (with_reducible refine Kd.C_drewN ?_ _) | (with_reducible refine Kd.C_drew ?_)))
                                  (case side4 => exact (Kd.R_reads' HO223.out).2.1)
                                  rintro e w' ⟨rfl, ⟨nd, rfl⟩⟩
                                  refine ⟨_, rfl, ?_⟩
                                  refine hK.out _ _ ⟨hHeld.1, hHeld.2.1, hHeld.2.2.1, hHeld.2.2.2⟩ (fun hHeld => ?_)
                                  clear hK K
                                  refine norm_ (a' := ?_) ?_ ?_
                                  rotate_left
                                  · show Act.put _ (some 104) _ = _
                                    simp only [Act.put, List.setIfInBounds_toArray, List.set_cons_zero, List.set_cons_succ, i64_w, i32_w]
                                    rfl
                                  refine pure_ (i := 33) (N := some 105) (v := ?_) (a' := ?_) #[true, true, true, true, true, true, true, true, true, true, true, true, true, true, true, true, true, true, true, true, true, true, true, true, true, true, true, true, true, true, true, true, true, true, false, false, false, false, false, false, false, false, false, false, false, false, false, false, false, false, false] rfl rfl (any_of HT_.out (by kernel_rfl)) (fun _ _ _ h => h) (Or.inl ⟨by rfl, ?_⟩) ?_ ?_
                                  rotate_left
                                  · intro w'
                                    go_simp
                                    with_reducible rfl
                                  rotate_left
                                  · simp only [Act.put, List.setIfInBounds_toArray, List.set_cons_zero, List.set_cons_succ, i64_w, i32_w]
                                    rfl
                                  refine pure_ (i := 34) (N := some 106) (v := ?_) (a' := ?_) #[true, true, true, true, true, true, true, true, true, true, true, true, true, true, true, true, true, true, true, true, true, true, true, true, true, true, true, true, true, true, true, true, true, true, true, false, false, false, false, false, false, false, false, false, false, false, false, false, false, false, false] rfl rfl (any_of HT_.out (by kernel_rfl)) (fun _ _ _ h => h) (Or.inl ⟨by rfl, ?_⟩) ?_ ?_
                                  rotate_left
                                  · intro w'
                                    go_simp
                                    with_reducible rfl
                                  rotate_left
                                  · simp only [Act.put, List.setIfInBounds_toArray, List.set_cons_zero, List.set_cons_succ, i64_w, i32_w]
                                    rfl
                                  refine pure_ (i := 35) (N := some 107) (v := ?_) (a' := ?_) #[true, true, true, true, true, true, true, true, true, true, true, true, true, true, true, true, true, true, true, true, true, true, true, true, true, true, true, true, true, true, true, true, true, true, true, true, false, false, false, false, false, false, false, false, false, false, false, false, false, false, false] rfl rfl (any_of HT_.out (by kernel_rfl)) (fun _ _ _ h => h) (Or.inl ⟨by rfl, ?_⟩) ?_ ?_
                                  rotate_left
                                  · intro w'
                                    go_simp
                                    with_reducible rfl
                                  rotate_left
                                  · simp only [Act.put, List.setIfInBounds_toArray, List.set_cons_zero, List.set_cons_succ, i64_w, i32_w]
                                    rfl
                                  refine pure_ (i := 36) (N := some 108) (v := ?_) (a' := ?_) #[true, true, true, true, true, true, true, true, true, true, true, true, true, true, true, true, true, true, true, true, true, true, true, true, true, true, true, true, true, true, true, true, true, true, true, true, true, false, false, false, false, false, false, false, false, false, false, false, false, false, false] rfl rfl (any_of HT_.out (by kernel_rfl)) (fun _ _ _ h => h) (Or.inl ⟨by rfl, ?_⟩) ?_ ?_
                                  rotate_left
                                  · intro w'
                                    go_simp
                                    with_reducible rfl
                                  rotate_left
                                  · simp only [Act.put, List.setIfInBounds_toArray, List.set_cons_zero, List.set_cons_succ, i64_w, i32_w]
                                    rfl
                                  refine pure_ (i := 37) (N := some 109) (v := ?_) (a' := ?_) #[true, true, true, true, true, true, true, true, true, true, true, true, true, true, true, true, true, true, true, true, true, true, true, true, true, true, true, true, true, true, true, true, true, true, true, true, true, true, false, false, false, false, false, false, false, false, false, false, false, false, false] rfl rfl (any_of HT_.out (by kernel_rfl)) (fun _ _ _ h => h) (Or.inl ⟨by rfl, ?_⟩) ?_ ?_
                                  rotate_left
                                  · intro w'
                                    go_simp
                                    with_reducible rfl
                                  rotate_left
                                  · simp only [Act.put, List.setIfInBounds_toArray, List.set_cons_zero, List.set_cons_succ, i64_w, i32_w]
                                    rfl
                                  refine pure_ (i := 38) (N := some 110) (v := ?_) (a' := ?_) #[true, true, true, true, true, true, true, true, true, true, true, true, true, true, true, true, true, true, true, true, true, true, true, true, true, true, true, true, true, true, true, true, true, true, true, true, true, true, true, false, false, false, false, false, false, false, false, false, false, false, false] rfl rfl (any_of HT_.out (by kernel_rfl)) (fun _ _ _ h => h) (Or.inl ⟨by rfl, ?_⟩) ?_ ?_
                                  rotate_left
                                  · intro w'
                                    go_simp
                                    with_reducible rfl
                                  rotate_left
                                  · simp only [Act.put, List.setIfInBounds_toArray, List.set_cons_zero, List.set_cons_succ, i64_w, i32_w]
                                    rfl
                                  refine pure_ (i := 39) (N := some 111) (v := ?_) (a' := ?_) #[true, true, true, true, true, true, true, true, true, true, true, true, true, true, true, true, true, true, true, true, true, true, true, true, true, true, true, true, true, true, true, true, true, true, true, true, true, true, true, true, false, false, false, false, false, false, false, false, false, false, false] rfl rfl (any_of HT_.out (by kernel_rfl)) (fun _ _ _ h => h) (Or.inl ⟨by rfl, ?_⟩) ?_ ?_
                                  rotate_left
                                  · intro w'
                                    go_simp
                                    with_reducible rfl
                                  rotate_left
                                  · simp only [Act.put, List.setIfInBounds_toArray, List.set_cons_zero, List.set_cons_succ, i64_w, i32_w]
                                    rfl
                                  refine pure_ (i := 40) (N := some 112) (v := ?_) (a' := ?_) #[true, true, true, true, true, true, true, true, true, true, true, true, true, true, true, true, true, true, true, true, true, true, true, true, true, true, true, true, true, true, true, true, true, true, true, true, true, true, true, true, true, false, false, false, false, false, false, false, false, false, false] rfl rfl (any_of HT_.out (by kernel_rfl)) (fun _ _ _ h => h) (Or.inl ⟨by rfl, ?_⟩) ?_ ?_
                                  rotate_left
                                  · intro w'
                                    go_simp
                                    with_reducible rfl
                                  rotate_left
                                  · simp only [Act.put, List.setIfInBounds_toArray, List.set_cons_zero, List.set_cons_succ, i64_w, i32_w]
                                    rfl
                                  refine pure_ (i := 41) (N := some 113) (v := ?_) (a' := ?_) #[true, true, true, true, true, true, true, true, true, true, true, true, true, true, true, true, true, true, true, true, true, true, true, true, true, true, true, true, true, true, true, true, true, true, true, true, true, true, true, true, true, true, false, false, false, false, false, false, false, false, false] rfl rfl (any_of HT_.out (by kernel_rfl)) (fun _ _ _ h => h) (Or.inl ⟨by rfl, ?_⟩) ?_ ?_
                                  rotate_left
                                  · intro w'
                                    go_simp
                                    with_reducible rfl
                                  rotate_left
                                  · simp only [Act.put, List.setIfInBounds_toArray, List.set_cons_zero, List.set_cons_succ, i64_w, i32_w]
                                    rfl
                                  refine pure_ (i := 42) (N := some 114) (v := ?_) (a' := ?_) #[true, true, true, true, true, true, true, true, true, true, true, true, true, true, true, true, true, true, true, true, true, true, true, true, true, true, true, true, true, true, true, true, true, true, true, true, true, true, true, true, true, true, true, false, false, false, false, false, false, false, false] rfl rfl (any_of HT_.out (by kernel_rfl)) (fun _ _ _ h => h) (Or.inl ⟨by rfl, ?_⟩) ?_ ?_
                                  rotate_left
                                  · intro w'
                                    go_simp
                                    with_reducible rfl
                                  rotate_left
                                  · simp only [Act.put, List.setIfInBounds_toArray, List.set_cons_zero, List.set_cons_succ, i64_w, i32_w]
                                    rfl
                                  refine pure_ (i := 43) (N := some 115) (v := ?_) (a' := ?_) #[true, true, true, true, true, true, true, true, true, true, true, true, true, true, true, true, true, true, true, true, true, true, true, true, true, true, true, true, true, true, true, true, true, true, true, true, true, true, true, true, true, true, true, true, false, false, false, false, false, false, false] rfl rfl (any_of HT_.out (by kernel_rfl)) (fun _ _ _ h => h) (Or.inl ⟨by rfl, ?_⟩) ?_ ?_
                                  rotate_left
                                  · intro w'
                                    go_simp
                                    with_reducible rfl
                                  rotate_left
                                  · simp only [Act.put, List.setIfInBounds_toArray, List.set_cons_zero, List.set_cons_succ, i64_w, i32_w]
                                    rfl
                                  refine pure_ (i := 44) (N := some 116) (v := ?_) (a' := ?_) #[true, true, true, true, true, true, true, true, true, true, true, true, true, true, true, true, true, true, true, true, true, true, true, true, true, true, true, true, true, true, true, true, true, true, true, true, true, true, true, true, true, true, true, true, true, false, false, false, false, false, false] rfl rfl (any_of HT_.out (by kernel_rfl)) (fun _ _ _ h => h) (Or.inl ⟨by rfl, ?_⟩) ?_ ?_
                                  rotate_left
                                  · intro w'
                                    go_simp
                                    with_reducible rfl
                                  rotate_left
                                  · simp only [Act.put, List.setIfInBounds_toArray, List.set_cons_zero, List.set_cons_succ, i64_w, i32_w]
                                    rfl
                                  refine pure_ (i := 45) (N := some 117) (v := ?_) (a' := ?_) #[true, true, true, true, true, true, true, true, true, true, true, true, true, true, true, true, true, true, true, true, true, true, true, true, true, true, true, true, true, true, true, true, true, true, true, true, true, true, true, true, true, true, true, true, true, true, false, false, false, false, false] rfl rfl (any_of HT_.out (by kernel_rfl)) (fun _ _ _ h => h) (Or.inl ⟨by rfl, ?_⟩) ?_ ?_
                                  rotate_left
                                  · intro w'
                                    go_simp
                                    with_reducible rfl
                                  rotate_left
                                  · simp only [Act.put, List.setIfInBounds_toArray, List.set_cons_zero, List.set_cons_succ, i64_w, i32_w]
                                    rfl
                                  refine pure_ (i := 46) (N := some 118) (v := ?_) (a' := ?_) #[true, true, true, true, true, true, true, true, true, true, true, true, true, true, true, true, true, true, true, true, true, true, true, true, true, true, true, true, true, true, true, true, true, true, true, true, true, true, true, true, true, true, true, true, true, true, true, false, false, false, false] rfl rfl (any_of HT_.out (by kernel_rfl)) (fun _ _ _ h => h) (Or.inl ⟨by rfl, ?_⟩) ?_ ?_
                                  rotate_left
                                  · intro w'
                                    go_simp
                                    with_reducible rfl
                                  rotate_left
                                  · simp only [Act.put, List.setIfInBounds_toArray, List.set_cons_zero, List.set_cons_succ, i64_w, i32_w]
                                    rfl
                                  refine pure_ (i := 47) (N := some 119) (v := ?_) (a' := ?_) #[true, true, true, true, true, true, true, true, true, true, true, true, true, true, true, true, true, true, true, true, true, true, true, true, true, true, true, true, true, true, true, true, true, true, true, true, true, true, true, true, true, true, true, true, true, true, true, true, false, false, false] rfl rfl (any_of HT_.out (by kernel_rfl)) (fun _ _ _ h => h) (Or.inl ⟨by rfl, ?_⟩) ?_ ?_
                                  rotate_left
                                  · intro w'
                                    go_simp
                                    with_reducible rfl
                                  rotate_left
                                  · simp only [Act.put, List.setIfInBounds_toArray, List.set_cons_zero, List.set_cons_succ, i64_w, i32_w]
                                    rfl
                                  refine pure_ (i := 48) (N := some 120) (v := ?_) (a' := ?_) #[true, true, true, true, true, true, true, true, true, true, true, true, true, true, true, true, true, true, true, true, true, true, true, true, true, true, true, true, true, true, true, true, true, true, true, true, true, true, true, true, true, true, true, true, true, true, true, true, true, false, false] rfl rfl (any_of HT_.out (by kernel_rfl)) (fun _ _ _ h => h) (Or.inl ⟨by rfl, ?_⟩) ?_ ?_
                                  rotate_left
                                  · intro w'
                                    go_simp
                                    with_reducible rfl
                                  rotate_left
                                  · simp only [Act.put, List.setIfInBounds_toArray, List.set_cons_zero, List.set_cons_succ, i64_w, i32_w]
                                    rfl
                                  refine pure_ (i := 49) (N := some 121) (v := ?_) (a' := ?_) #[true, true, true, true, true, true, true, true, true, true, true, true, true, true, true, true, true, true, true, true, true, true, true, true, true, true, true, true, true, true, true, true, true, true, true, true, true, true, true, true, true, true, true, true, true, true, true, true, true, true, false] rfl rfl (any_of HT_.out (by kernel_rfl)) (fun _ _ _ h => h) (Or.inl ⟨by rfl, ?_⟩) ?_ ?_
                                  rotate_left
                                  · intro w'
                                    go_simp
                                    with_reducible rfl
                                  rotate_left
                                  · simp only [Act.put, List.setIfInBounds_toArray, List.set_cons_zero, List.set_cons_succ, i64_w, i32_w]
                                    rfl
                                  refine pure_ (i := 50) (N := some 0) (v := ?_) (a' := ?_) #[true, true, true, true, true, true, true, true, true, true, true, true, true, true, true, true, true, true, true, true, true, true, true, true, true, true, true, true, true, true, true, true, true, true, true, true, true, true, true, true, true, true, true, true, true, true, true, true, true, true, true] rfl rfl (any_of HT_.out (by kernel_rfl)) (fun _ _ _ h => h) (Or.inl ⟨by rfl, ?_⟩) ?_ ?_
                                  rotate_left
                                  · intro w'
                                    go_simp
                                    with_reducible rfl
                                  rotate_left
                                  · simp only [Act.put, List.setIfInBounds_toArray, List.set_cons_zero, List.set_cons_succ, i64_w, i32_w]
                                    rfl
                                  refine done_ (done_of HT_.out (by kernel_rfl)) ?_
                                  try go_wp2
                                  go_ret
                                  exact ⟨by first | rfl | (simp [errW_none, errW_some] <;> rfl) | (simp [*, errW_none, errW_some] <;> rfl), by repeat (first | (with_reducible first | exact HB.out | apply below_alloc | apply pw_below_drewN | apply below_drew1) | exact HB.out)⟩
                                · rw [if_neg c38] at H
                                  have c38b0 : (t207 == 4) = false := beq_eq_false_iff_ne.mpr c38
                                  have c38b1 : (t207 != 4) = true := bne_iff_ne.mpr c38
                                  exact absurd (Option.some.inj (H.trans (congrArg some hrt))) (by decide)
                              · rw [if_neg c37] at H
                                have c37b0 : (t199 == 3) = false := beq_eq_false_iff_ne.mpr c37
                                have c37b1 : (t199 != 3) = true := bne_iff_ne.mpr c37
                                exact absurd (Option.some.inj (H.trans (congrArg some hrt))) (by decide)
                            · rw [if_neg c36] at H
                              have c36b0 : (t189 == 7) = false := beq_eq_false_iff_ne.mpr c36
                              have c36b1 : (t189 != 7) = true := bne_iff_ne.mpr c36
                              exact absurd (Option.some.inj (H.trans (congrArg some hrt))) (by decide)
                          · replace c35 := Bool.eq_false_iff.mpr c35
                            subst c35
                            have H1 : (some false) = some r := by rw [if_neg (show ¬ (false = true) by decide)] at H; exact H
                            clear H
                            have H := H1
                            clear H1
                            exact absurd (Option.some.inj (H.trans (congrArg some hrt))) (by decide)
                        · rw [if_neg c33] at H
                          have c33b0 : (t190 == 0) = false := beq_eq_false_iff_ne.mpr c33
                          have c33b1 : (t190 != 0) = true := bne_iff_ne.mpr c33
                          exact absurd (Option.some.inj (H.trans (congrArg some hrt))) (by decide)
                      · rw [if_neg c32] at H
                        have c32b0 : ((Go.bits .or .u32 (Go.bits .or .u32 (Go.bits .or .u32 ((((rd y211 3) % 4294967296) * 16777216) % 4294967296) ((((rd y211 4) % 4294967296) * 65536) % 4294967296)) ((((rd y211 5) % 4294967296) * 256) % 4294967296)) ((Go.bits .xor .u8 (rd y211 6) 1) % 4294967296)) == t181) = false := beq_eq_false_iff_ne.mpr c32
                        have c32w0 : ((Go.bits .or .u32 (Go.bits .or .u32 (Go.bits .or .u32 (IntKind.u32.wrap ((IntKind.u32.wrap (rd y211 3)) * 16777216)) (IntKind.u32.wrap ((IntKind.u32.wrap (rd y211 4)) * 65536))) (IntKind.u32.wrap ((IntKind.u32.wrap (rd y211 5)) * 256))) (IntKind.u32.wrap (Go.bits .xor .u8 (rd y211 6) 1))) == t181) = false := c32b0
                        have c32b1 : ((Go.bits .or .u32 (Go.bits .or .u32 (Go.bits .or .u32 ((((rd y211 3) % 4294967296) * 16777216) % 4294967296) ((((rd y211 4) % 4294967296) * 65536) % 4294967296)) ((((rd y211 5) % 4294967296) * 256) % 4294967296)) ((Go.bits .xor .u8 (rd y211 6) 1) % 4294967296)) != t181) = true := bne_iff_ne.mpr c32
                        have c32w1 : ((Go.bits .or .u32 (Go.bits .or .u32 (Go.bits .or .u32 (IntKind.u32.wrap ((IntKind.u32.wrap (rd y211 3)) * 16777216)) (IntKind.u32.wrap ((IntKind.u32.wrap (rd y211 4)) * 65536))) (IntKind.u32.wrap ((IntKind.u32.wrap (rd y211 5)) * 256))) (IntKind.u32.wrap (Go.bits .xor .u8 (rd y211 6) 1))) != t181) = true := c32b1
                        exact absurd (Option.some.inj (H.trans (congrArg some hrt))) (by decide)
                    · rw [if_neg c31] at H
                      exact absurd H (by simp)
                  · rw [if_neg c30] at H
                    exact absurd H (by simp)
                · rw [if_neg c29] at H
                  exact absurd H (by simp)
              · rw [if_neg c26] at H
                exact absurd H (by simp)
            · rw [if_neg c23] at H
              exact absurd H (by simp)
          · rw [if_neg c21] at H
            exact absurd H (by simp)
        · rw [if_neg c18] at H
          exact absurd H (by simp)

/-- Where it is true; else nothing is told. -/
def scriptoriumlaw04_works.f (k : Nat)  : Option (Bool) := (scriptoriumlaw04_works_in.f k).bind fun r_ => if r_ = true then some true else none
theorem scriptoriumlaw04_works.mono : ∀ k, LeO (scriptoriumlaw04_works.f k ) (scriptoriumlaw04_works.f (k + 1) ) := fun k => LeO.bind (scriptoriumlaw04_works_in.mono k) (fun _ => LeO.refl _)
theorem scriptoriumlaw04_works.calls (k : Nat)  (r : Bool) (w : World) (h : scriptoriumlaw04_works.f k = some r) :
    Calls Try.prog 16 #[] w fun e w' => e = .returned (.bool r) ∧ Below w.heap.size w w' := by
  obtain ⟨r_, h1, h2⟩ := Option.bind_eq_some_iff.mp h
  cases r_ with
  | false => exact absurd h2 (by simp)
  | true =>
    have hrt := (Option.some.inj h2).symm
    exact scriptoriumlaw04_works_in.calls k r w (h1.trans (congrArg some hrt.symm)) hrt

end Go.Proofs.Ytkboplflbokofaa.PFrameKnown
