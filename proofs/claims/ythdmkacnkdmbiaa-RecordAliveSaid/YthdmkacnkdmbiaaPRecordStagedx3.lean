/- Written by xprint.py, a program of these sessions (over the print of the kit, with leaves typed by hand): one Lean function for each Go function, and the proof that the Go code comes to its answers. -/
import Derived.Test.YthdmkacnkdmbiaaPRecordStagedx0
namespace Go.Proofs.Ythdmkacnkdmbiaa.PRecordStaged
open Go.RowKit Go.Proofs.YthdmkacnkdmbiaaW.PrintWords Go.Proofs.YthdmkacnkdmbiaaW.PrintLast Go.Proofs.YthdmkacnkdmbiaaW.PrintMore
attribute [local go_sem] max2_int min2_int max_two min_two max_three min_three max_four min_four   -- for this text's walks alone
attribute [local go_sem] str_gtr str_leq str_geq
set_option linter.unusedVariables false
set_option linter.unusedSimpArgs false

/-! ### scriptoriumref00_Bring: function 12 -/
def scriptoriumref00_Bring.f (a0 : Int) (a1 : Int) : Option (Int) := if a1 ≤ 0 then (some 0) else (if a1 = 0 then (none) else (if (Int.tmod a0 a1) < 0 then (some (wrap64 ((Int.tmod a0 a1) + a1))) else (some (Int.tmod a0 a1))))
set_option maxHeartbeats 8000000 in
set_option maxRecDepth 100000 in
theorem scriptoriumref00_Bring.calls (a0 : Int) (a1 : Int) (r : Int) (w : World) (h : scriptoriumref00_Bring.f a0 a1 = some r) :
    Calls Try.prog 12 #[.int .i64 a0, .int .i64 a1] w fun e w' => e = .returned (.int .i64 r) ∧ Drawn0 w w' := by
  have H : (if a1 ≤ 0 then (some 0) else (if a1 = 0 then (none) else (if (Int.tmod a0 a1) < 0 then (some (wrap64 ((Int.tmod a0 a1) + a1))) else (some (Int.tmod a0 a1))))) = some r := h
  clear h
  by_cases c3 : a1 ≤ 0
  · rw [if_pos c3] at H
    have c3b0 : decide (a1 ≤ 0) = true := decide_eq_true c3
    clear c3
    obtain rfl := Option.some.inj H
    go_enter Try.func12, Try.ntmps12
    go_wp2
    go_ret
    exact ⟨by first | rfl | (simp; done) | (simp [*]; done), by repeat (first | exact Drawn0.refl _ | apply Drawn0.step)⟩
  · rw [if_neg c3] at H
    have c3b0 : decide (a1 ≤ 0) = false := decide_eq_false c3
    clear c3
    by_cases c4 : a1 = 0
    · rw [if_pos c4] at H
      exact absurd H (by simp)
    · rw [if_neg c4] at H
      have c4b0 : (a1 == 0) = false := beq_eq_false_iff_ne.mpr c4
      have c4b1 : (a1 != 0) = true := bne_iff_ne.mpr c4
      by_cases c5 : (Int.tmod a0 a1) < 0
      · rw [if_pos c5] at H
        have c5b0 : decide ((Int.tmod a0 a1) < 0) = true := decide_eq_true c5
        clear c5
        obtain rfl := Option.some.inj H
        go_enter Try.func12, Try.ntmps12
        go_wp2
        go_ret
        exact ⟨by first | rfl | (simp; done) | (simp [*]; done), by repeat (first | exact Drawn0.refl _ | apply Drawn0.step)⟩
      · rw [if_neg c5] at H
        have c5b0 : decide ((Int.tmod a0 a1) < 0) = false := decide_eq_false c5
        clear c5
        obtain rfl := Option.some.inj H
        go_enter Try.func12, Try.ntmps12
        go_wp2
        go_ret
        exact ⟨by first | rfl | (simp; done) | (simp [*]; done), by repeat (first | exact Drawn0.refl _ | apply Drawn0.step)⟩

/-! ### scriptoriumlaw20_near_1: function 14 -/
def scriptoriumlaw20_near_1.f (a0_0 : Int) (a0_1 : Int) : Option (Int × Int) := (scriptoriumref00_Bring.f a0_0 200).bind fun t103 => ((scriptoriumref00_Bring.f a0_1 3).bind fun t104 => (some (t103, t104)))
def scriptoriumlaw20_near_1.T1 : Bool × List (List Nat × List Nat) := (true, [([], []), ([0], [0]), ([1], [1]), ([], []), ([3], [3]), ([4, 2], [4]), ([2, 5], [2, 5]), ([6, 5, 0, 1, 2, 3, 4, 5, 6], [6])])
def scriptoriumlaw20_near_1.B1 : List Nat := [0, 1, 3, 0, 8, 31, 63, 127]
theorem scriptoriumlaw20_near_1.tab1 : rtab .any (opsOf Try.f14 1) = scriptoriumlaw20_near_1.T1 := by kernel_rfl
theorem scriptoriumlaw20_near_1.bits1 : waitsOk scriptoriumlaw20_near_1.T1.2 scriptoriumlaw20_near_1.B1 = true := by kernel_rfl
set_option maxHeartbeats 8000000 in
set_option maxRecDepth 100000 in
theorem scriptoriumlaw20_near_1.calls (a0_0 : Int) (a0_1 : Int) (r1 : Int) (r2 : Int) (w : World) (h : scriptoriumlaw20_near_1.f a0_0 a0_1 = some (r1, r2)) :
  Calls Try.prog 14 #[.agg #[.int .i64 a0_0, .int .i64 a0_1]] w fun e w' => e = .returned (.agg #[.int .i64 r1, .int .i64 r2]) ∧ Below w.heap.size w w' := by
 have hu24 := Try.underlying24
 have HB := Aside0.mk (Below.refl w.heap.size w)
 have H : ((scriptoriumref00_Bring.f a0_0 200).bind fun t103 => ((scriptoriumref00_Bring.f a0_1 3).bind fun t104 => (some (t103, t104)))) = some (r1, r2) := h
 clear h
 replace H := Option.bind_eq_some_iff.mp H
 obtain ⟨t103, A20, H⟩ := H
 replace H : ((scriptoriumref00_Bring.f a0_1 3).bind fun t104 => (some (t103, t104))) = some (r1, r2) := H
 have A2 := Aside0.mk A20
 clear A20
 replace H := Option.bind_eq_some_iff.mp H
 obtain ⟨t104, A30, H⟩ := H
 replace H : (some (t103, t104)) = some (r1, r2) := H
 have A3 := Aside0.mk A30
 clear A30
 simp only [Option.some.injEq, Prod.mk.injEq] at H
 obtain ⟨rfl, rfl⟩ := H
 go_enter Try.func14, Try.ntmps14
 try go_wp2_with (first | ((with_reducible refine gate_dst (N := 1) rfl ?_); refine box_event ?hg (N := 1) ?hd (cs := #[.int .i64 a0_0, .int .i64 a0_1]) (t := 24) ?hr ?_; (case hd => rfl); (case hg => rfl); (case hr => first | (go_simp; done) | (go_simp; rfl)); intro gb101 hg w4 hbox hb; have n0_ := Aside0.mk (below_step (by repeat (first | (with_reducible first | exact HB.out | apply below_alloc | apply pw_below_drewN | apply below_drew1) | exact HB.out)) hb); have n1_ := Aside0.mk (hbox); have n2_ := Aside0.mk ((by rw [hg]; exact (below_size (by repeat (first | (with_reducible first | exact HB.out | apply below_alloc | apply pw_below_drewN | apply below_drew1) | exact HB.out))) : w.heap.size ≤ gb101)); have n3_ := Aside0.mk ((by rw [hg]; exact (below_size (by repeat (first | (with_reducible first | exact HB.out | apply below_alloc | apply pw_below_drewN | apply below_drew1) | exact HB.out))) : w.heap.size ≤ gb101)); clear HB; have HB := n0_; have BK101 := n1_; have GW101 := n2_; have GE101 := n3_; clear n0_ n1_ n2_ n3_; clear hb hbox hg) | ((with_reducible refine gate_dst (N := 2) rfl ?_); refine box_event ?hg (N := 2) ?hd (cs := #[.int .i64 0, .int .i64 0]) (t := 24) ?hr ?_; (case hd => rfl); (case hg => rfl); (case hr => first | (go_simp; done) | (go_simp; rfl)); intro gb102 hg w5 hbox hb; have n0_ := Aside0.mk (blk_below (g := gb101) (o := .cells #[.int .i64 a0_0, .int .i64 a0_1] 24 (0, 0)) (by (with_reducible repeat first | apply blk_drewN | apply blk_drew | apply blk_alloc); exact BK101.out) hb); have n1_ := Aside0.mk (below_step (by repeat (first | (with_reducible first | exact HB.out | apply below_alloc | apply pw_below_drewN | apply below_drew1 | refine below_set ?_ GE101.out) | exact HB.out)) hb); have n2_ := Aside0.mk (hbox); have n3_ := Aside0.mk ((by rw [hg]; exact (below_size (by repeat (first | (with_reducible first | exact HB.out | apply below_alloc | apply pw_below_drewN | apply below_drew1 | refine below_set ?_ GE101.out) | exact HB.out))) : w.heap.size ≤ gb102)); have n4_ := Aside0.mk ((by rw [hg]; exact (below_size (by repeat (first | (with_reducible first | exact HB.out | apply below_alloc | apply pw_below_drewN | apply below_drew1 | refine below_set ?_ GE101.out) | exact HB.out))) : w.heap.size ≤ gb102)); have n5_ := Aside0.mk ((by rw [hg]; exact Nat.ne_of_lt (blk_lt (by (with_reducible repeat first | apply blk_drewN | apply blk_drew | apply blk_alloc); exact BK101.out)) : gb101 ≠ gb102)); have n6_ := Aside0.mk ((by rw [hg]; exact Nat.ne_of_gt (blk_lt (by (with_reducible repeat first | apply blk_drewN | apply blk_drew | apply blk_alloc); exact BK101.out)) : gb102 ≠ gb101)); clear BK101; clear HB; have BK101 := n0_; have HB := n1_; have BK102 := n2_; have GW102 := n3_; have GE102 := n4_; have NB101_102 := n5_; have NB102_101 := n6_; clear n0_ n1_ n2_ n3_ n4_ n5_ n6_; clear hb hbox hg))
 have n0_ := Aside0.mk (blk_drew BK101.out)
 have n1_ := Aside0.mk (blk_drew BK102.out)
 have n2_ := Aside0.mk (below_drew1 HB.out)
 clear BK101
 clear BK102
 clear HB
 have BK101 := n0_
 have BK102 := n1_
 have HB := n2_
 clear n0_ n1_ n2_
 refine start_ (n := 8) (S := fun w' => w'.cell? ⟨gb101, 0, none⟩ = some (.int .i64 a0_0) ∧ w'.cell? ⟨gb101, 1, none⟩ = some (.int .i64 a0_1)) (ds := []) #[false, false, false, false, false, false, false, false] (by kernel_rfl) rfl rfl ⟨(blk_cell BK101.out 0).trans rfl, (blk_cell BK101.out 1).trans rfl⟩ (fun hHeld => ?_); refine with_tabW scriptoriumlaw20_near_1.tab1 scriptoriumlaw20_near_1.bits1 (fun HT_ HW_ => ?_)
 generalize w5.drew = w6 at BK101 BK102 HB hHeld ⊢
 refine pure_ (i := 0) (N := some 3) (v := ?_) (a' := ?_) #[true, false, false, false, false, false, false, false] rfl rfl (any_of HT_.out (by kernel_rfl)) (fun _ _ _ h => h) (Or.inl ⟨by rfl, ?_⟩) ?_ ?_
 rotate_left
 ·intro w'
  go_simp
  with_reducible rfl
 rotate_left
 ·simp only [Act.put, List.setIfInBounds_toArray, List.set_cons_zero, List.set_cons_succ, i64_w, i32_w]
  rfl
 refine pure_ (i := 3) (N := some 6) (v := ?_) (a' := ?_) #[true, false, false, true, false, false, false, false] rfl rfl (any_of HT_.out (by kernel_rfl)) (fun _ _ _ h => h) (Or.inl ⟨by rfl, ?_⟩) ?_ ?_
 rotate_left
 ·intro w'
  go_simp
  with_reducible rfl
 rotate_left
 ·simp only [Act.put, List.setIfInBounds_toArray, List.set_cons_zero, List.set_cons_succ, i64_w, i32_w]
  rfl
 refine take_ (i := 1) (N := some 4) (v := ?_) (a' := ?_) #[true, true, false, true, false, false, false, false] rfl rfl (take_ofW HT_.out HW_.out (by kernel_rfl)) (fun _ _ _ h => h) (Or.inl ⟨by rfl, ?_⟩) hHeld ?_ ?_
 rotate_left
 ·rintro w' ⟨s0, s1⟩
  go_simp
  with_reducible rfl
 rotate_left
 ·simp only [Act.put, List.setIfInBounds_toArray, List.set_cons_zero, List.set_cons_succ, i64_w, i32_w]
  rfl
 refine take_ (i := 4) (N := some 7) (v := ?_) (a' := ?_) #[true, true, false, true, true, false, false, false] rfl rfl (take_ofW HT_.out HW_.out (by kernel_rfl)) (fun _ _ _ h => h) (Or.inl ⟨by rfl, ?_⟩) hHeld ?_ ?_
 rotate_left
 ·rintro w' ⟨s0, s1⟩
  go_simp
  with_reducible rfl
 rotate_left
 ·simp only [Act.put, List.setIfInBounds_toArray, List.set_cons_zero, List.set_cons_succ, i64_w, i32_w]
  rfl
 refine one_ (i := 2) (N := some 5) #[true, true, true, true, true, false, false, false] rfl rfl (one_of HT_.out (by kernel_rfl)) (by decide) (fun K hK => ?_)
 refine goes_ Try.func12 (by kernel_rfl) rfl #[.int .i64 a0_0, .int .i64 200] (by rfl) rfl rfl (by (try simp only [List.map_toArray, List.map_cons, List.map_nil]); first | done | rfl | (simp only [List.length_drop, List.length_take]; rfl)) ?_
 with_reducible refine (scriptoriumref00_Bring.calls a0_0 200 t103 _ A2.out).mono ?_
 rintro e w' ⟨rfl, ⟨nd, rfl⟩⟩
 refine ⟨_, rfl, ?_⟩
 refine hK.out _ _ ⟨(blk_cell BK101.out 0).trans rfl, (blk_cell BK101.out 1).trans rfl⟩ (fun hHeld => ?_)
 clear hK K
 refine norm_ (a' := ?_) ?_ ?_
 rotate_left
 ·show Act.put _ (some 5) _ = _
  simp only [Act.put, List.setIfInBounds_toArray, List.set_cons_zero, List.set_cons_succ, i64_w, i32_w]
  rfl
 refine one_ (i := 5) (N := some 8) #[true, true, true, true, true, true, false, false] rfl rfl (one_of HT_.out (by kernel_rfl)) (by decide) (fun K hK => ?_)
 refine goes_ Try.func12 (by kernel_rfl) rfl #[.int .i64 a0_1, .int .i64 3] (by rfl) rfl rfl (by (try simp only [List.map_toArray, List.map_cons, List.map_nil]); first | done | rfl | (simp only [List.length_drop, List.length_take]; rfl)) ?_
 with_reducible refine (scriptoriumref00_Bring.calls a0_1 3 t104 _ A3.out).mono ?_
 rintro e w' ⟨rfl, ⟨nd, rfl⟩⟩
 refine ⟨_, rfl, ?_⟩
 refine hK.out _ _ ⟨(blk_cell BK101.out 0).trans rfl, (blk_cell BK101.out 1).trans rfl⟩ (fun hHeld => ?_)
 clear hK K
 refine norm_ (a' := ?_) ?_ ?_
 rotate_left
 ·show Act.put _ (some 8) _ = _
  simp only [Act.put, List.setIfInBounds_toArray, List.set_cons_zero, List.set_cons_succ, i64_w, i32_w]
  rfl
 refine pure_ (i := 6) (N := some 9) (v := ?_) (a' := ?_) #[true, true, true, true, true, true, true, false] rfl rfl (any_of HT_.out (by kernel_rfl)) (fun _ _ _ h => h) (Or.inl ⟨by rfl, ?_⟩) ?_ ?_
 rotate_left
 ·intro w'
  go_simp
  with_reducible rfl
 rotate_left
 ·simp only [Act.put, List.setIfInBounds_toArray, List.set_cons_zero, List.set_cons_succ, i64_w, i32_w]
  rfl
 refine one_ (i := 7) (N := none) #[true, true, true, true, true, true, true, true] rfl rfl (one_of HT_.out (by kernel_rfl)) (by decide) (fun K hK => ?_)
 have hs7 : w6.cell? ⟨gb102, 0, none⟩ = some (.int .i64 0) := (blk_cell BK102.out 0).trans rfl
 have hfs7 := blk_frozen BK102.out 0
 have hns7_0 := NB101_102.out
 have hms7_0 := NB102_101.out
 have hs8 : w6.cell? ⟨gb102, 1, none⟩ = some (.int .i64 0) := (blk_cell BK102.out 1).trans rfl
 have hfs8 := blk_frozen BK102.out 1
 have hns8_0 := NB101_102.out
 have hms8_0 := NB102_101.out
 refine skip_ (w1 := ?_) (by rfl) rfl ?_ ?_
 rotate_left
 ·go_simp
  rfl
 refine hK.out _ _ ⟨((cell_far (p := ⟨gb102, _, none⟩) NB101_102.out _).trans (((cell_far (p := ⟨gb102, _, none⟩) NB101_102.out _).trans (hHeld.1)))), ((cell_far (p := ⟨gb102, _, none⟩) NB101_102.out _).trans (((cell_far (p := ⟨gb102, _, none⟩) NB101_102.out _).trans (hHeld.2))))⟩ (fun hHeld => ?_)
 clear hK K
 refine done_ (done_of HT_.out (by kernel_rfl)) ?_
 try go_wp2
 refine bodyPost_ret (results_cell_row rfl _ _ gb102 24 #[.int .i64 t103, .int .i64 t104] (0, 0) _ rfl (by (with_reducible repeat first | apply blk_drewN | apply blk_drew | apply blk_alloc); refine blk_put (cs := #[.int .i64 t103, .int .i64 0]) ?_ 1 _ rfl; (with_reducible repeat first | apply blk_drewN | apply blk_drew | apply blk_alloc); refine blk_put (cs := #[.int .i64 0, .int .i64 0]) ?_ 0 _ rfl; (with_reducible repeat first | apply blk_drewN | apply blk_drew | apply blk_alloc); exact BK102.out) Try.underlying24 rfl (by kernel_rfl)) rfl ?_
 exact ⟨by first | rfl | (simp [errW_none, errW_some] <;> rfl) | (simp [*, errW_none, errW_some] <;> rfl), by repeat (first | (with_reducible first | exact HB.out | apply below_alloc | apply pw_below_drewN | apply below_drew1 | refine below_set ?_ GE101.out | refine below_set ?_ GE102.out) | exact HB.out)⟩

/-! ### scriptoriumlaw20_near: function 8 (a leaf, by hand) -/
theorem two_boxes (W : World) (o1 o2 : Obj) : ∃ V, (W.alloc o1).alloc o2 = V ∧ V.heap[W.heap.size]? = some o1 ∧ V.heap[W.heap.size + 1]? = some o2 ∧ Below W.heap.size W V ∧ V.heap.size = W.heap.size + 2 := by
  have h := blk_new (W.alloc o1) o2
  rw [World.size_alloc] at h
  exact ⟨_, rfl, blk_alloc (blk_new W o1) o2, h, below_alloc (below_alloc (Below.refl _ _) _) _, by rw [World.size_alloc, World.size_alloc]⟩
theorem below_row {W w : World} {g : Nat} (h : Below W.heap.size W w) (hg : W.heap.size ≤ g) (cs : Array Value) : Below W.heap.size W (w.setRow g cs) := ⟨h.os, h.tape, h.output, by rw [setRow_size]; exact h.size, fun k hk => (setRow_other _ _ _ _ (by omega)).trans (h.block k hk)⟩
theorem cells31 {w : World} {g : Nat} {t : TypeId} {a0 a1 a2 a3 a4 a5 a6 a7 a8 a9 a10 a11 a12 a13 a14 a15 a16 a17 a18 a19 a20 a21 a22 a23 a24 a25 a26 a27 a28 a29 a30 : Value} (h : w.heap[g]? = some (.cells #[a0, a1, a2, a3, a4, a5, a6, a7, a8, a9, a10, a11, a12, a13, a14, a15, a16, a17, a18, a19, a20, a21, a22, a23, a24, a25, a26, a27, a28, a29, a30] t (0, 0))) : w.cell? ⟨g, 0, none⟩ = some a0 ∧ w.cell? ⟨g, 1, none⟩ = some a1 ∧ w.cell? ⟨g, 2, none⟩ = some a2 ∧ w.cell? ⟨g, 3, none⟩ = some a3 ∧ w.cell? ⟨g, 4, none⟩ = some a4 ∧ w.cell? ⟨g, 5, none⟩ = some a5 ∧ w.cell? ⟨g, 6, none⟩ = some a6 ∧ w.cell? ⟨g, 7, none⟩ = some a7 ∧ w.cell? ⟨g, 8, none⟩ = some a8 ∧ w.cell? ⟨g, 9, none⟩ = some a9 ∧ w.cell? ⟨g, 10, none⟩ = some a10 ∧ w.cell? ⟨g, 11, none⟩ = some a11 ∧ w.cell? ⟨g, 12, none⟩ = some a12 ∧ w.cell? ⟨g, 13, none⟩ = some a13 ∧ w.cell? ⟨g, 14, none⟩ = some a14 ∧ w.cell? ⟨g, 15, none⟩ = some a15 ∧ w.cell? ⟨g, 16, none⟩ = some a16 ∧ w.cell? ⟨g, 17, none⟩ = some a17 ∧ w.cell? ⟨g, 18, none⟩ = some a18 ∧ w.cell? ⟨g, 19, none⟩ = some a19 ∧ w.cell? ⟨g, 20, none⟩ = some a20 ∧ w.cell? ⟨g, 21, none⟩ = some a21 ∧ w.cell? ⟨g, 22, none⟩ = some a22 ∧ w.cell? ⟨g, 23, none⟩ = some a23 ∧ w.cell? ⟨g, 24, none⟩ = some a24 ∧ w.cell? ⟨g, 25, none⟩ = some a25 ∧ w.cell? ⟨g, 26, none⟩ = some a26 ∧ w.cell? ⟨g, 27, none⟩ = some a27 ∧ w.cell? ⟨g, 28, none⟩ = some a28 ∧ w.cell? ⟨g, 29, none⟩ = some a29 ∧ w.cell? ⟨g, 30, none⟩ = some a30 :=
  ⟨(blk_cell h 0).trans rfl, (blk_cell h 1).trans rfl, (blk_cell h 2).trans rfl, (blk_cell h 3).trans rfl, (blk_cell h 4).trans rfl, (blk_cell h 5).trans rfl, (blk_cell h 6).trans rfl, (blk_cell h 7).trans rfl, (blk_cell h 8).trans rfl, (blk_cell h 9).trans rfl, (blk_cell h 10).trans rfl, (blk_cell h 11).trans rfl, (blk_cell h 12).trans rfl, (blk_cell h 13).trans rfl, (blk_cell h 14).trans rfl, (blk_cell h 15).trans rfl, (blk_cell h 16).trans rfl, (blk_cell h 17).trans rfl, (blk_cell h 18).trans rfl, (blk_cell h 19).trans rfl, (blk_cell h 20).trans rfl, (blk_cell h 21).trans rfl, (blk_cell h 22).trans rfl, (blk_cell h 23).trans rfl, (blk_cell h 24).trans rfl, (blk_cell h 25).trans rfl, (blk_cell h 26).trans rfl, (blk_cell h 27).trans rfl, (blk_cell h 28).trans rfl, (blk_cell h 29).trans rfl, (blk_cell h 30).trans rfl⟩
def scriptoriumlaw20_near.f (a0_0 : Int) (a0_1 : Int) (a0_2 : Int) (a0_3 : Bool) (a0_4 : Int) (a0_5 : Int) (a0_6 : Int) (a0_7 : ByteArray) (a0_8 : Int) (a0_9 : Int) (a0_10 : Int) (a0_11 : Int) (a0_12 : Int) (a0_13 : Int) (a0_14 : Int) (a0_15 : Int) (a0_16 : Int) (a0_17 : Int) (a0_18 : Int) (a0_19 : Int) (a0_20 : ByteArray) (a0_21 : Int) (a0_22 : Int) (a0_23 : Int) (a0_24 : Int) (l0_25 : List (S44)) (l0_26 : List (S44)) (a0_27 : Int) (a0_28 : Int) (a0_29 : Int) (a0_30 : Int) : Option (Int × Int × Int × Bool × Int × Int × Int × ByteArray × Int × Int × Int × Int × Int × Int × Int × Int × Int × Int × Int × Int × ByteArray × Int × Int × Int × Int × (List (S44)) × (List (S44)) × Int × Int × Int × Int) :=
  (scriptoriumref00_Bring.f a0_5 3).bind fun t1 => (scriptoriumlaw20_near_1.f a0_8 a0_9).bind fun s => (scriptoriumlaw20_near_1.f a0_10 a0_11).bind fun u =>
  (scriptoriumref00_Bring.f a0_17 3).bind fun t4 => (scriptoriumlaw20_near_1.f a0_21 a0_22).bind fun p => (scriptoriumlaw20_near_1.f a0_23 a0_24).bind fun q =>
  (scriptoriumref00_Bring.f a0_0 4).bind fun t7 => (scriptoriumref00_Bring.f a0_1 3).bind fun t8 => (scriptoriumref00_Bring.f a0_2 9).bind fun t9 =>
  (scriptoriumlaw20_near_1.f a0_27 a0_28).bind fun x => (scriptoriumlaw20_near_1.f a0_29 a0_30).bind fun y =>
    some (a0_0, (wrap64 (2 + t8)), (wrap64 (1 + t9)), a0_3, 7, t1, 5, (⟨#[97]⟩ : ByteArray), (if a0_3 = true then u else s).1, (if a0_3 = true then u else s).2, u.1, u.2, a0_12, a0_13, a0_14, a0_15, 7, t4, (if t7 = 3 then 2 else 1), 5, (⟨#[97]⟩ : ByteArray), p.1, p.2, q.1, q.2, [], (if wrap64 (2 + t8) = 2 then [(⟨⟨#[98]⟩, 1⟩ : S44)] else []), x.1, x.2, y.1, y.2)
set_option maxHeartbeats 16000000 in
set_option maxRecDepth 100000 in
theorem scriptoriumlaw20_near.calls (a0_0 : Int) (a0_1 : Int) (a0_2 : Int) (a0_3 : Bool) (a0_4 : Int) (a0_5 : Int) (a0_6 : Int) (a0_7 : ByteArray) (a0_8 : Int) (a0_9 : Int) (a0_10 : Int) (a0_11 : Int) (a0_12 : Int) (a0_13 : Int) (a0_14 : Int) (a0_15 : Int) (a0_16 : Int) (a0_17 : Int) (a0_18 : Int) (a0_19 : Int) (a0_20 : ByteArray) (a0_21 : Int) (a0_22 : Int) (a0_23 : Int) (a0_24 : Int) (A0_25 : Option Addr) (c0_25 : Nat) (l0_25 : List (S44)) (A0_26 : Option Addr) (c0_26 : Nat) (l0_26 : List (S44)) (a0_27 : Int) (a0_28 : Int) (a0_29 : Int) (a0_30 : Int) (r1 : Int) (r2 : Int) (r3 : Int) (r4 : Bool) (r5 : Int) (r6 : Int) (r7 : Int) (r8 : ByteArray) (r9 : Int) (r10 : Int) (r11 : Int) (r12 : Int) (r13 : Int) (r14 : Int) (r15 : Int) (r16 : Int) (r17 : Int) (r18 : Int) (r19 : Int) (r20 : Int) (r21 : ByteArray) (r22 : Int) (r23 : Int) (r24 : Int) (r25 : Int) (r26 : List (S44)) (r27 : List (S44)) (r28 : Int) (r29 : Int) (r30 : Int) (r31 : Int) (w : World) (hr0_25 : Kd.C k44 w A0_25 l0_25.length l0_25) (hc0_25 : l0_25.length ≤ c0_25) (hr0_26 : Kd.C k44 w A0_26 l0_26.length l0_26) (hc0_26 : l0_26.length ≤ c0_26) (h : scriptoriumlaw20_near.f a0_0 a0_1 a0_2 a0_3 a0_4 a0_5 a0_6 a0_7 a0_8 a0_9 a0_10 a0_11 a0_12 a0_13 a0_14 a0_15 a0_16 a0_17 a0_18 a0_19 a0_20 a0_21 a0_22 a0_23 a0_24 l0_25 l0_26 a0_27 a0_28 a0_29 a0_30 = some (r1, r2, r3, r4, r5, r6, r7, r8, r9, r10, r11, r12, r13, r14, r15, r16, r17, r18, r19, r20, r21, r22, r23, r24, r25, r26, r27, r28, r29, r30, r31)) :
    Calls Try.prog 8 #[.agg #[.int .i64 a0_0, .int .i64 a0_1, .int .i64 a0_2, .bool a0_3, .int .i64 a0_4, .int .i64 a0_5, .int .i64 a0_6, .string a0_7, .int .i64 a0_8, .int .i64 a0_9, .int .i64 a0_10, .int .i64 a0_11, .int .i64 a0_12, .int .i64 a0_13, .int .i64 a0_14, .int .i64 a0_15, .int .i64 a0_16, .int .i64 a0_17, .int .i64 a0_18, .int .i64 a0_19, .string a0_20, .int .i64 a0_21, .int .i64 a0_22, .int .i64 a0_23, .int .i64 a0_24, .slice A0_25 l0_25.length c0_25, .slice A0_26 l0_26.length c0_26, .int .i64 a0_27, .int .i64 a0_28, .int .i64 a0_29, .int .i64 a0_30]] w (fun e w' => ∃ v25_ v26_ : Value, e = .returned (.agg #[.int .i64 r1, .int .i64 r2, .int .i64 r3, .bool r4, .int .i64 r5, .int .i64 r6, .int .i64 r7, .string r8, .int .i64 r9, .int .i64 r10, .int .i64 r11, .int .i64 r12, .int .i64 r13, .int .i64 r14, .int .i64 r15, .int .i64 r16, .int .i64 r17, .int .i64 r18, .int .i64 r19, .int .i64 r20, .string r21, .int .i64 r22, .int .i64 r23, .int .i64 r24, .int .i64 r25, v25_, v26_, .int .i64 r28, .int .i64 r29, .int .i64 r30, .int .i64 r31]) ∧ Kd.R k44 44 w' w.heap.size (fun k_ => some k_ ≠ (v26_ : Value).ownBlock) v25_ r26 ∧ Kd.R k44 44 w' w.heap.size (fun k_ => some k_ ≠ (v25_ : Value).ownBlock) v26_ r27 ∧ Below w.heap.size w w') := by
  clear hr0_25 hc0_25 hr0_26 hc0_26
  unfold scriptoriumlaw20_near.f at h
  obtain ⟨t1, ht1, h⟩ := Option.bind_eq_some_iff.mp h
  have Ht1 := Aside0.mk ht1
  clear ht1
  obtain ⟨⟨s0, s1⟩, hs, h⟩ := Option.bind_eq_some_iff.mp h
  have Hs := Aside0.mk hs
  clear hs
  obtain ⟨⟨u0, u1⟩, hu, h⟩ := Option.bind_eq_some_iff.mp h
  have Hu := Aside0.mk hu
  clear hu
  obtain ⟨t4, ht4, h⟩ := Option.bind_eq_some_iff.mp h
  have Ht4 := Aside0.mk ht4
  clear ht4
  obtain ⟨⟨p0, p1⟩, hp, h⟩ := Option.bind_eq_some_iff.mp h
  have Hp := Aside0.mk hp
  clear hp
  obtain ⟨⟨q0, q1⟩, hq, h⟩ := Option.bind_eq_some_iff.mp h
  have Hq := Aside0.mk hq
  clear hq
  obtain ⟨t7, ht7, h⟩ := Option.bind_eq_some_iff.mp h
  have Ht7 := Aside0.mk ht7
  clear ht7
  obtain ⟨t8, ht8, h⟩ := Option.bind_eq_some_iff.mp h
  have Ht8 := Aside0.mk ht8
  clear ht8
  obtain ⟨t9, ht9, h⟩ := Option.bind_eq_some_iff.mp h
  have Ht9 := Aside0.mk ht9
  clear ht9
  obtain ⟨⟨x0, x1⟩, hx, h⟩ := Option.bind_eq_some_iff.mp h
  have Hx := Aside0.mk hx
  clear hx
  obtain ⟨⟨y0, y1⟩, hy, h⟩ := Option.bind_eq_some_iff.mp h
  have Hy := Aside0.mk hy
  clear hy
  have HF := Aside0.mk h
  clear h
  go_enter Try.func8, Try.ntmps8
  go_wp2_with fail
  obtain ⟨w0, hw0, h1, h2, hb0, hs0⟩ := two_boxes w (.cells #[.int .i64 a0_0, .int .i64 a0_1, .int .i64 a0_2, .bool a0_3, .int .i64 7, .int .i64 a0_5, .int .i64 a0_6, .string ⟨#[97]⟩, .int .i64 a0_8, .int .i64 a0_9, .int .i64 a0_10, .int .i64 a0_11, .int .i64 a0_12, .int .i64 a0_13, .int .i64 a0_14, .int .i64 a0_15, .int .i64 a0_16, .int .i64 a0_17, .int .i64 a0_18, .int .i64 a0_19, .string a0_20, .int .i64 a0_21, .int .i64 a0_22, .int .i64 a0_23, .int .i64 a0_24, .slice A0_25 l0_25.length c0_25, .slice A0_26 l0_26.length c0_26, .int .i64 a0_27, .int .i64 a0_28, .int .i64 a0_29, .int .i64 a0_30] 33) (.cells #[.int .i64 0, .int .i64 0, .int .i64 0, .bool false, .int .i64 0, .int .i64 0, .int .i64 0, .string ⟨#[]⟩, .int .i64 0, .int .i64 0, .int .i64 0, .int .i64 0, .int .i64 0, .int .i64 0, .int .i64 0, .int .i64 0, .int .i64 0, .int .i64 0, .int .i64 0, .int .i64 0, .string ⟨#[]⟩, .int .i64 0, .int .i64 0, .int .i64 0, .int .i64 0, .slice none 0 0, .slice none 0 0, .int .i64 0, .int .i64 0, .int .i64 0, .int .i64 0] 33)
  rw [hw0]
  clear hw0
  have HD := Aside0.mk h1
  have HO := Aside0.mk h2
  have HB := Aside0.mk hb0
  clear h1 h2 hb0 hs0
  have hne : w.heap.size + 1 ≠ w.heap.size := by omega
  refine (scriptoriumref00_Bring.calls a0_5 3 t1 _ Ht1.out).mono ?_
  rintro e w1 ⟨rfl, hb⟩
  replace hb := hb.below
  first
    | (with_reducible have HD_ := Aside0.mk (blk_below HD.out hb); with_reducible have HO_ := Aside0.mk (blk_below HO.out hb); with_reducible have HB_ := Aside0.mk (below_step HB.out hb))
  clear HD HO HB hb
  have HD := HD_
  have HO := HO_
  have HB := HB_
  clear HD_ HO_ HB_
  have x5 : w1.cell? ⟨w.heap.size, 5, none⟩ = some (.int .i64 a0_5) := (blk_cell HD.out 5).trans rfl
  have x6 : w1.cell? ⟨w.heap.size, 6, none⟩ = some (.int .i64 a0_6) := (blk_cell HD.out 6).trans rfl
  have x8 : w1.cell? ⟨w.heap.size, 8, none⟩ = some (.int .i64 a0_8) := (blk_cell HD.out 8).trans rfl
  have x9 : w1.cell? ⟨w.heap.size, 9, none⟩ = some (.int .i64 a0_9) := (blk_cell HD.out 9).trans rfl
  have f5 := blk_frozen HD.out 5
  have f6 := blk_frozen HD.out 6
  have f8 := blk_frozen HD.out 8
  have f9 := blk_frozen HD.out 9
  go_wp2_with fail
  clear x5 f5 x6 f6 x8 f8 x9 f9
  refine (scriptoriumlaw20_near_1.calls a0_8 a0_9 s0 s1 _ Hs.out).mono ?_
  rintro e w2 ⟨rfl, hb⟩
  first
    | (with_reducible have HD_ := Aside0.mk (blk_below (blk_set (blk_set HD.out 5 _) 6 _) hb); with_reducible have HO_ := Aside0.mk (blk_below (blk_far (blk_far HO.out (p := ⟨w.heap.size, 5, none⟩) hne _) (p := ⟨w.heap.size, 6, none⟩) hne _) hb); with_reducible have HB_ := Aside0.mk (below_step (below_set (below_set HB.out (Nat.le_refl _)) (Nat.le_refl _)) hb))
  try simp only [List.setIfInBounds_toArray, List.set_cons_zero, List.set_cons_succ] at HD_
  clear HD HO HB hb
  have HD := HD_
  have HO := HO_
  have HB := HB_
  clear HD_ HO_ HB_
  have x8 : w2.cell? ⟨w.heap.size, 8, none⟩ = some (.int .i64 a0_8) := (blk_cell HD.out 8).trans rfl
  have x9 : w2.cell? ⟨w.heap.size, 9, none⟩ = some (.int .i64 a0_9) := (blk_cell HD.out 9).trans rfl
  have x10 : w2.cell? ⟨w.heap.size, 10, none⟩ = some (.int .i64 a0_10) := (blk_cell HD.out 10).trans rfl
  have x11 : w2.cell? ⟨w.heap.size, 11, none⟩ = some (.int .i64 a0_11) := (blk_cell HD.out 11).trans rfl
  have f8 := blk_frozen HD.out 8
  have f9 := blk_frozen HD.out 9
  have f10 := blk_frozen HD.out 10
  have f11 := blk_frozen HD.out 11
  go_wp2_with fail
  clear x8 f8 x9 f9 x10 f10 x11 f11
  refine (scriptoriumlaw20_near_1.calls a0_10 a0_11 u0 u1 _ Hu.out).mono ?_
  rintro e w3 ⟨rfl, hb⟩
  first
    | (with_reducible have HD_ := Aside0.mk (blk_below (blk_set (blk_set HD.out 8 _) 9 _) hb); with_reducible have HO_ := Aside0.mk (blk_below (blk_far (blk_far HO.out (p := ⟨w.heap.size, 8, none⟩) hne _) (p := ⟨w.heap.size, 9, none⟩) hne _) hb); with_reducible have HB_ := Aside0.mk (below_step (below_set (below_set HB.out (Nat.le_refl _)) (Nat.le_refl _)) hb))
  try simp only [List.setIfInBounds_toArray, List.set_cons_zero, List.set_cons_succ] at HD_
  clear HD HO HB hb
  have HD := HD_
  have HO := HO_
  have HB := HB_
  clear HD_ HO_ HB_
  have hfl : a0_3 = true ∨ a0_3 = false := by cases a0_3 <;> simp
  rcases hfl with hfl | hfl
  all_goals (
    have x3 : w3.cell? ⟨w.heap.size, 3, none⟩ = some (.bool a0_3) := (blk_cell HD.out 3).trans rfl
    have x8 : w3.cell? ⟨w.heap.size, 8, none⟩ = some (.int .i64 s0) := (blk_cell HD.out 8).trans rfl
    have x9 : w3.cell? ⟨w.heap.size, 9, none⟩ = some (.int .i64 s1) := (blk_cell HD.out 9).trans rfl
    have x10 : w3.cell? ⟨w.heap.size, 10, none⟩ = some (.int .i64 a0_10) := (blk_cell HD.out 10).trans rfl
    have x11 : w3.cell? ⟨w.heap.size, 11, none⟩ = some (.int .i64 a0_11) := (blk_cell HD.out 11).trans rfl
    have x16 : w3.cell? ⟨w.heap.size, 16, none⟩ = some (.int .i64 a0_16) := (blk_cell HD.out 16).trans rfl
    have x17 : w3.cell? ⟨w.heap.size, 17, none⟩ = some (.int .i64 a0_17) := (blk_cell HD.out 17).trans rfl
    have x20 : w3.cell? ⟨w.heap.size, 20, none⟩ = some (.string a0_20) := (blk_cell HD.out 20).trans rfl
    have f3 := blk_frozen HD.out 3
    have f8 := blk_frozen HD.out 8
    have f9 := blk_frozen HD.out 9
    have f10 := blk_frozen HD.out 10
    have f11 := blk_frozen HD.out 11
    have f16 := blk_frozen HD.out 16
    have f17 := blk_frozen HD.out 17
    have f20 := blk_frozen HD.out 20
    go_wp2_with fail
    clear x3 f3 x8 f8 x9 f9 x10 f10 x11 f11 x16 f16 x17 f17 x20 f20
    refine (scriptoriumref00_Bring.calls a0_17 3 t4 _ Ht4.out).mono ?_
    rintro e w4 ⟨rfl, hb⟩
    replace hb := hb.below
    first
      | (with_reducible have HD_ := Aside0.mk (blk_below (blk_set (blk_set (blk_set (blk_set (blk_set (blk_set HD.out 10 _) 11 _) 8 _) 9 _) 16 _) 20 _) hb); with_reducible have HO_ := Aside0.mk (blk_below (blk_far (blk_far (blk_far (blk_far (blk_far (blk_far HO.out (p := ⟨w.heap.size, 10, none⟩) hne _) (p := ⟨w.heap.size, 11, none⟩) hne _) (p := ⟨w.heap.size, 8, none⟩) hne _) (p := ⟨w.heap.size, 9, none⟩) hne _) (p := ⟨w.heap.size, 16, none⟩) hne _) (p := ⟨w.heap.size, 20, none⟩) hne _) hb); with_reducible have HB_ := Aside0.mk (below_step (below_set (below_set (below_set (below_set (below_set (below_set HB.out (Nat.le_refl _)) (Nat.le_refl _)) (Nat.le_refl _)) (Nat.le_refl _)) (Nat.le_refl _)) (Nat.le_refl _)) hb))
      | (with_reducible have HD_ := Aside0.mk (blk_below (blk_set (blk_set (blk_set (blk_set HD.out 10 _) 11 _) 16 _) 20 _) hb); with_reducible have HO_ := Aside0.mk (blk_below (blk_far (blk_far (blk_far (blk_far HO.out (p := ⟨w.heap.size, 10, none⟩) hne _) (p := ⟨w.heap.size, 11, none⟩) hne _) (p := ⟨w.heap.size, 16, none⟩) hne _) (p := ⟨w.heap.size, 20, none⟩) hne _) hb); with_reducible have HB_ := Aside0.mk (below_step (below_set (below_set (below_set (below_set HB.out (Nat.le_refl _)) (Nat.le_refl _)) (Nat.le_refl _)) (Nat.le_refl _)) hb))
    try simp only [List.setIfInBounds_toArray, List.set_cons_zero, List.set_cons_succ] at HD_
    clear HD HO HB hb
    have HD := HD_
    have HO := HO_
    have HB := HB_
    clear HD_ HO_ HB_
    have x17 : w4.cell? ⟨w.heap.size, 17, none⟩ = some (.int .i64 a0_17) := (blk_cell HD.out 17).trans rfl
    have x19 : w4.cell? ⟨w.heap.size, 19, none⟩ = some (.int .i64 a0_19) := (blk_cell HD.out 19).trans rfl
    have x21 : w4.cell? ⟨w.heap.size, 21, none⟩ = some (.int .i64 a0_21) := (blk_cell HD.out 21).trans rfl
    have x22 : w4.cell? ⟨w.heap.size, 22, none⟩ = some (.int .i64 a0_22) := (blk_cell HD.out 22).trans rfl
    have f17 := blk_frozen HD.out 17
    have f19 := blk_frozen HD.out 19
    have f21 := blk_frozen HD.out 21
    have f22 := blk_frozen HD.out 22
    go_wp2_with fail
    clear x17 f17 x19 f19 x21 f21 x22 f22
    refine (scriptoriumlaw20_near_1.calls a0_21 a0_22 p0 p1 _ Hp.out).mono ?_
    rintro e w5 ⟨rfl, hb⟩
    first
      | (with_reducible have HD_ := Aside0.mk (blk_below (blk_set (blk_set HD.out 17 _) 19 _) hb); with_reducible have HO_ := Aside0.mk (blk_below (blk_far (blk_far HO.out (p := ⟨w.heap.size, 17, none⟩) hne _) (p := ⟨w.heap.size, 19, none⟩) hne _) hb); with_reducible have HB_ := Aside0.mk (below_step (below_set (below_set HB.out (Nat.le_refl _)) (Nat.le_refl _)) hb))
    try simp only [List.setIfInBounds_toArray, List.set_cons_zero, List.set_cons_succ] at HD_
    clear HD HO HB hb
    have HD := HD_
    have HO := HO_
    have HB := HB_
    clear HD_ HO_ HB_
    have x21 : w5.cell? ⟨w.heap.size, 21, none⟩ = some (.int .i64 a0_21) := (blk_cell HD.out 21).trans rfl
    have x22 : w5.cell? ⟨w.heap.size, 22, none⟩ = some (.int .i64 a0_22) := (blk_cell HD.out 22).trans rfl
    have x23 : w5.cell? ⟨w.heap.size, 23, none⟩ = some (.int .i64 a0_23) := (blk_cell HD.out 23).trans rfl
    have x24 : w5.cell? ⟨w.heap.size, 24, none⟩ = some (.int .i64 a0_24) := (blk_cell HD.out 24).trans rfl
    have f21 := blk_frozen HD.out 21
    have f22 := blk_frozen HD.out 22
    have f23 := blk_frozen HD.out 23
    have f24 := blk_frozen HD.out 24
    go_wp2_with fail
    clear x21 f21 x22 f22 x23 f23 x24 f24
    refine (scriptoriumlaw20_near_1.calls a0_23 a0_24 q0 q1 _ Hq.out).mono ?_
    rintro e w6 ⟨rfl, hb⟩
    first
      | (with_reducible have HD_ := Aside0.mk (blk_below (blk_set (blk_set HD.out 21 _) 22 _) hb); with_reducible have HO_ := Aside0.mk (blk_below (blk_far (blk_far HO.out (p := ⟨w.heap.size, 21, none⟩) hne _) (p := ⟨w.heap.size, 22, none⟩) hne _) hb); with_reducible have HB_ := Aside0.mk (below_step (below_set (below_set HB.out (Nat.le_refl _)) (Nat.le_refl _)) hb))
    try simp only [List.setIfInBounds_toArray, List.set_cons_zero, List.set_cons_succ] at HD_
    clear HD HO HB hb
    have HD := HD_
    have HO := HO_
    have HB := HB_
    clear HD_ HO_ HB_
    have x23 : w6.cell? ⟨w.heap.size, 23, none⟩ = some (.int .i64 a0_23) := (blk_cell HD.out 23).trans rfl
    have x24 : w6.cell? ⟨w.heap.size, 24, none⟩ = some (.int .i64 a0_24) := (blk_cell HD.out 24).trans rfl
    have x25 : w6.cell? ⟨w.heap.size, 25, none⟩ = some (.slice A0_25 l0_25.length c0_25) := (blk_cell HD.out 25).trans rfl
    have x18 : w6.cell? ⟨w.heap.size, 18, none⟩ = some (.int .i64 a0_18) := (blk_cell HD.out 18).trans rfl
    have x0 : w6.cell? ⟨w.heap.size, 0, none⟩ = some (.int .i64 a0_0) := (blk_cell HD.out 0).trans rfl
    have f23 := blk_frozen HD.out 23
    have f24 := blk_frozen HD.out 24
    have f25 := blk_frozen HD.out 25
    have f18 := blk_frozen HD.out 18
    have f0 := blk_frozen HD.out 0
    go_wp2_with fail
    clear x23 f23 x24 f24 x25 f25 x18 f18 x0 f0
    refine (scriptoriumref00_Bring.calls a0_0 4 t7 _ Ht7.out).mono ?_
    rintro e w7 ⟨rfl, hb⟩
    replace hb := hb.below
    first
      | (with_reducible have HD_ := Aside0.mk (blk_below (blk_set (blk_set (blk_set (blk_set HD.out 23 _) 24 _) 25 _) 18 _) hb); with_reducible have HO_ := Aside0.mk (blk_below (blk_far (blk_far (blk_far (blk_far HO.out (p := ⟨w.heap.size, 23, none⟩) hne _) (p := ⟨w.heap.size, 24, none⟩) hne _) (p := ⟨w.heap.size, 25, none⟩) hne _) (p := ⟨w.heap.size, 18, none⟩) hne _) hb); with_reducible have HB_ := Aside0.mk (below_step (below_set (below_set (below_set (below_set HB.out (Nat.le_refl _)) (Nat.le_refl _)) (Nat.le_refl _)) (Nat.le_refl _)) hb))
    try simp only [List.setIfInBounds_toArray, List.set_cons_zero, List.set_cons_succ] at HD_
    clear HD HO HB hb
    have HD := HD_
    have HO := HO_
    have HB := HB_
    clear HD_ HO_ HB_
    by_cases q7 : t7 = 3
    all_goals (
      first | (have d7 : (t7 == 3) = true := beq_iff_eq.mpr q7) | (have d7 : (t7 == 3) = false := beq_eq_false_iff_ne.mpr q7)
      have HQ7 := Aside0.mk q7
      clear q7
      have x18 : w7.cell? ⟨w.heap.size, 18, none⟩ = some (.int .i64 1) := (blk_cell HD.out 18).trans rfl
      have x1 : w7.cell? ⟨w.heap.size, 1, none⟩ = some (.int .i64 a0_1) := (blk_cell HD.out 1).trans rfl
      have f18 := blk_frozen HD.out 18
      have f1 := blk_frozen HD.out 1
      go_wp2_with fail
      clear x18 f18 x1 f1
      refine (scriptoriumref00_Bring.calls a0_1 3 t8 _ Ht8.out).mono ?_
      rintro e w8 ⟨rfl, hb⟩
      replace hb := hb.below
      first
        | (with_reducible have HD_ := Aside0.mk (blk_below (blk_set HD.out 18 _) hb); with_reducible have HO_ := Aside0.mk (blk_below (blk_far HO.out (p := ⟨w.heap.size, 18, none⟩) hne _) hb); with_reducible have HB_ := Aside0.mk (below_step (below_set HB.out (Nat.le_refl _)) hb))
        | (with_reducible have HD_ := Aside0.mk (blk_below HD.out hb); with_reducible have HO_ := Aside0.mk (blk_below HO.out hb); with_reducible have HB_ := Aside0.mk (below_step HB.out hb))
      try simp only [List.setIfInBounds_toArray, List.set_cons_zero, List.set_cons_succ] at HD_
      clear HD HO HB hb
      have HD := HD_
      have HO := HO_
      have HB := HB_
      clear HD_ HO_ HB_
      have x1 : w8.cell? ⟨w.heap.size, 1, none⟩ = some (.int .i64 a0_1) := (blk_cell HD.out 1).trans rfl
      have x2 : w8.cell? ⟨w.heap.size, 2, none⟩ = some (.int .i64 a0_2) := (blk_cell HD.out 2).trans rfl
      have f1 := blk_frozen HD.out 1
      have f2 := blk_frozen HD.out 2
      go_wp2_with fail
      clear x1 f1 x2 f2
      refine (scriptoriumref00_Bring.calls a0_2 9 t9 _ Ht9.out).mono ?_
      rintro e w9 ⟨rfl, hb⟩
      replace hb := hb.below
      first
        | (with_reducible have HD_ := Aside0.mk (blk_below (blk_set HD.out 1 _) hb); with_reducible have HO_ := Aside0.mk (blk_below (blk_far HO.out (p := ⟨w.heap.size, 1, none⟩) hne _) hb); with_reducible have HB_ := Aside0.mk (below_step (below_set HB.out (Nat.le_refl _)) hb))
      try simp only [List.setIfInBounds_toArray, List.set_cons_zero, List.set_cons_succ] at HD_
      clear HD HO HB hb
      have HD := HD_
      have HO := HO_
      have HB := HB_
      clear HD_ HO_ HB_
      by_cases q8 : wrap64 (2 + t8) = 2
      all_goals (
        first | (have d8 : (wrap64 (2 + t8) == 2) = true := beq_iff_eq.mpr q8) | (have d8 : (wrap64 (2 + t8) == 2) = false := beq_eq_false_iff_ne.mpr q8)
        have HQ8 := Aside0.mk q8
        clear q8
        have x1 : w9.cell? ⟨w.heap.size, 1, none⟩ = some (.int .i64 (wrap64 (2 + t8))) := (blk_cell HD.out 1).trans rfl
        have x2 : w9.cell? ⟨w.heap.size, 2, none⟩ = some (.int .i64 a0_2) := (blk_cell HD.out 2).trans rfl
        have x26 : w9.cell? ⟨w.heap.size, 26, none⟩ = some (.slice A0_26 l0_26.length c0_26) := (blk_cell HD.out 26).trans rfl
        have x27 : w9.cell? ⟨w.heap.size, 27, none⟩ = some (.int .i64 a0_27) := (blk_cell HD.out 27).trans rfl
        have x28 : w9.cell? ⟨w.heap.size, 28, none⟩ = some (.int .i64 a0_28) := (blk_cell HD.out 28).trans rfl
        have f1 := blk_frozen HD.out 1
        have f2 := blk_frozen HD.out 2
        have f26 := blk_frozen HD.out 26
        have f27 := blk_frozen HD.out 27
        have f28 := blk_frozen HD.out 28
        go_wp2_with ((with_reducible refine gate_dst (N := 88) rfl ?_); refine Kd.R_lit k44 _ 44 ?hg (N := 88) ?hd (xs := ([(⟨(⟨#[98]⟩ : ByteArray), 1⟩ : S44)] : List (S44))) (inner := [.string (⟨#[98]⟩ : ByteArray), .int .i64 1]) (ok := fun _ => True) (okp := fun _ => True) ?hr ?hp (fun _ hk => hk) trivial (Below.refl _ _) (Nat.le_refl _) (by simp) ?_; (case hd => rfl); (case hg => rfl); (case hr => first | (go_simp; done) | (go_simp; rfl)); (case hp => exact (Reps.c2 (show Kd.M k44 _ _ _ (⟨(⟨#[98]⟩ : ByteArray), 1⟩ : S44) [.string (⟨#[98]⟩ : ByteArray), .int .i64 1] from (k44_mkM _ _ _ (⟨(⟨#[98]⟩ : ByteArray), 1⟩ : S44) )) (Reps.none _ _))); intro vs wz hos hb hg_ hnew_; clear hg_ hnew_; have HD_ := Aside0.mk (blk_below (blk_set (blk_set HD.out 2 _) 26 _) hb); (simp only [List.setIfInBounds_toArray, List.set_cons_zero, List.set_cons_succ] at HD_); have HO_ := Aside0.mk (blk_below (blk_far (blk_far HO.out (p := ⟨w.heap.size, 2, none⟩) hne _) (p := ⟨w.heap.size, 26, none⟩) hne _) hb); have HB_ := Aside0.mk (below_step (below_set (below_set HB.out (Nat.le_refl _)) (Nat.le_refl _)) hb); have HROW := Aside0.mk (Kd.R_lower (base' := w.heap.size) (Kd.R_mono (ok' := fun b => w.heap.size + 2 ≤ b) (Kd.R_bound hos) (fun b hb_ => (by have h1 := hb_.2.1; have h2 := blk_lt HO.out; simp only [World.size_setCell] at h1; omega))) (by simp only [World.size_setCell]; exact HB.out.size)); clear HD HO HB hb; obtain ⟨Asl, csl, rfl⟩ := Kd.R_slice hos; clear hos; have HD := HD_; have HO := HO_; have HB := HB_; clear HD_ HO_ HB_; have y26 : wz.cell? ⟨w.heap.size, 26, none⟩ = some (.slice none 0 0) := (blk_cell HD.out 26).trans rfl; have g26 := blk_frozen HD.out 26; have y27 : wz.cell? ⟨w.heap.size, 27, none⟩ = some (.int .i64 a0_27) := (blk_cell HD.out 27).trans rfl; have y28 : wz.cell? ⟨w.heap.size, 28, none⟩ = some (.int .i64 a0_28) := (blk_cell HD.out 28).trans rfl)
        clear x1 f1 x2 f2 x26 f26 x27 f27 x28 f28
        (try clear y26 y27 y28 g26)
        refine (scriptoriumlaw20_near_1.calls a0_27 a0_28 x0 x1 _ Hx.out).mono ?_
        rintro e w10 ⟨rfl, hb⟩
        (try (have HROW_ := Aside0.mk (Kd.R_below (Kd.R_far HROW.out (fun b hb_ => (by have h1 : w.heap.size + 2 ≤ b := hb_; show b ≠ w.heap.size; omega)) _) hb); clear HROW; have HROW := HROW_; clear HROW_))
        first
          | (with_reducible have HD_ := Aside0.mk (blk_below (blk_set HD.out 26 _) hb); with_reducible have HO_ := Aside0.mk (blk_below (blk_far HO.out (p := ⟨w.heap.size, 26, none⟩) hne _) hb); with_reducible have HB_ := Aside0.mk (below_step (below_set HB.out (Nat.le_refl _)) hb))
          | (with_reducible have HD_ := Aside0.mk (blk_below (blk_set (blk_set HD.out 2 _) 26 _) hb); with_reducible have HO_ := Aside0.mk (blk_below (blk_far (blk_far HO.out (p := ⟨w.heap.size, 2, none⟩) hne _) (p := ⟨w.heap.size, 26, none⟩) hne _) hb); with_reducible have HB_ := Aside0.mk (below_step (below_set (below_set HB.out (Nat.le_refl _)) (Nat.le_refl _)) hb))
        try simp only [List.setIfInBounds_toArray, List.set_cons_zero, List.set_cons_succ] at HD_
        clear HD HO HB hb
        have HD := HD_
        have HO := HO_
        have HB := HB_
        clear HD_ HO_ HB_
        have x27 : w10.cell? ⟨w.heap.size, 27, none⟩ = some (.int .i64 a0_27) := (blk_cell HD.out 27).trans rfl
        have x28 : w10.cell? ⟨w.heap.size, 28, none⟩ = some (.int .i64 a0_28) := (blk_cell HD.out 28).trans rfl
        have x29 : w10.cell? ⟨w.heap.size, 29, none⟩ = some (.int .i64 a0_29) := (blk_cell HD.out 29).trans rfl
        have x30 : w10.cell? ⟨w.heap.size, 30, none⟩ = some (.int .i64 a0_30) := (blk_cell HD.out 30).trans rfl
        have f27 := blk_frozen HD.out 27
        have f28 := blk_frozen HD.out 28
        have f29 := blk_frozen HD.out 29
        have f30 := blk_frozen HD.out 30
        go_wp2_with fail
        clear x27 f27 x28 f28 x29 f29 x30 f30
        refine (scriptoriumlaw20_near_1.calls a0_29 a0_30 y0 y1 _ Hy.out).mono ?_
        rintro e w11 ⟨rfl, hb⟩
        (try (have HROW_ := Aside0.mk (Kd.R_below (Kd.R_far (Kd.R_far HROW.out (fun b hb_ => (by have h1 : w.heap.size + 2 ≤ b := hb_; show b ≠ w.heap.size; omega)) _) (fun b hb_ => (by have h1 : w.heap.size + 2 ≤ b := hb_; show b ≠ w.heap.size; omega)) _) hb); clear HROW; have HROW := HROW_; clear HROW_))
        first
          | (with_reducible have HD_ := Aside0.mk (blk_below (blk_set (blk_set HD.out 27 _) 28 _) hb); with_reducible have HO_ := Aside0.mk (blk_below (blk_far (blk_far HO.out (p := ⟨w.heap.size, 27, none⟩) hne _) (p := ⟨w.heap.size, 28, none⟩) hne _) hb); with_reducible have HB_ := Aside0.mk (below_step (below_set (below_set HB.out (Nat.le_refl _)) (Nat.le_refl _)) hb))
        try simp only [List.setIfInBounds_toArray, List.set_cons_zero, List.set_cons_succ] at HD_
        clear HD HO HB hb
        have HD := HD_
        have HO := HO_
        have HB := HB_
        clear HD_ HO_ HB_
        have x29 : w11.cell? ⟨w.heap.size, 29, none⟩ = some (.int .i64 a0_29) := (blk_cell HD.out 29).trans rfl
        have x30 : w11.cell? ⟨w.heap.size, 30, none⟩ = some (.int .i64 a0_30) := (blk_cell HD.out 30).trans rfl
        have f29 := blk_frozen HD.out 29
        have f30 := blk_frozen HD.out 30
        go_upto_region 27 with (fail)
        clear x29 x30 f29 f30
        have HD_ := Aside0.mk (blk_set (blk_set HD.out 29 (.int .i64 y0)) 30 (.int .i64 y1))
        have HO_ := Aside0.mk (blk_far (blk_far HO.out (p := ⟨w.heap.size, 29, none⟩) hne (.int .i64 y0)) (p := ⟨w.heap.size, 30, none⟩) hne (.int .i64 y1))
        have HB_ := Aside0.mk (below_set (j := 30) (v := (.int .i64 y1)) (below_set (j := 29) (v := (.int .i64 y0)) HB.out (Nat.le_refl w.heap.size)) (Nat.le_refl w.heap.size))
        (try (have HROW_ := Aside0.mk (Kd.R_far (p := ⟨w.heap.size, 30, none⟩) (Kd.R_far (p := ⟨w.heap.size, 29, none⟩) HROW.out (fun b hb_ => (by have h1 : w.heap.size + 2 ≤ b := hb_; show b ≠ w.heap.size; omega)) (.int .i64 y0)) (fun b hb_ => (by have h1 : w.heap.size + 2 ≤ b := hb_; show b ≠ w.heap.size; omega)) (.int .i64 y1))))
        generalize (w11.setCell ⟨w.heap.size, 29, none⟩ (.int .i64 y0)).setCell ⟨w.heap.size, 30, none⟩ (.int .i64 y1) = w12 at *
        clear HD HO HB
        (try clear HROW)
        simp only [List.setIfInBounds_toArray, List.set_cons_zero, List.set_cons_succ] at HD_
        go_wp2_with (first | (refine wpList_load_row rfl 33 _ rfl w.heap.size (by rfl) 33 _ (0, 0) _ HD_.out Try.underlying33 rfl (by kernel_rfl) ?_) | (refine wpList_store_row rfl 33 _ _ rfl (w.heap.size + 1) _ (by rfl) (by rfl) 33 _ HO_.out (by kernel_rfl) (by rfl) (by kernel_rfl) ?_))
        subst hfl
        have h := HF.out
        first | rw [if_pos rfl] at h | rw [if_neg (by simp)] at h
        first | rw [if_pos HQ7.out] at h | rw [if_neg HQ7.out] at h
        first | rw [if_pos HQ8.out] at h | rw [if_neg HQ8.out] at h
        dsimp only at h
        simp only [Option.some.injEq, Prod.mk.injEq] at h
        obtain ⟨rfl, rfl, rfl, rfl, rfl, rfl, rfl, rfl, rfl, rfl, rfl, rfl, rfl, rfl, rfl, rfl, rfl, rfl, rfl, rfl, rfl, rfl, rfl, rfl, rfl, rfl, rfl, rfl, rfl, rfl, rfl⟩ := h
        refine bodyPost_ret (results_cell_row rfl _ _ _ _ _ (0, 0) _ rfl (setRow_heap _ _ _ _ _ _ HO_.out) Try.underlying33 rfl (by kernel_rfl)) rfl ?_
        first
          | exact ⟨_, _, rfl, Kd.R_nil _ _ _ _ _, Kd.R_nil _ _ _ _ _, below_row HB_.out (Nat.le_succ _) _⟩
          | exact ⟨_, _, rfl, Kd.R_nil _ _ _ _ _, Kd.R_mono (Kd.R_step HROW_.out (fun b hb_ _ => setRow_other _ _ _ _ (by have h1 : w.heap.size + 2 ≤ b := hb_; omega))) (fun b _ => (by simp [Value.ownBlock])), below_row HB_.out (Nat.le_succ _) _⟩
      )
    )
  )

/-! ### cmp_Or_int: function 34 -/
def cmp_Or_int.l0 : Nat → Int → List Int → Int → Int → Option (Int)
 | 0, _, _, _, _ => none
 | k + 1, x3, x6, x7, x8 => if x8 < x7 then (if 0 ≤ x8 then (if x8 < (x6.length : Int) then (if (rd x6 x8) = x3 then (cmp_Or_int.l0 k x3 x6 x7 (wrap64 (x8 + 1))) else (some (rd x6 x8))) else (none)) else (none)) else (some x3)
def cmp_Or_int.f (k : Nat) (l0 : List Int) : Option (Int) := cmp_Or_int.l0 k 0 l0 (l0.length : Int) 0
theorem cmp_Or_int.mono_l : ∀ k, (∀ y0 y1 y2 y3, LeO (cmp_Or_int.l0 k y0 y1 y2 y3) (cmp_Or_int.l0 (k + 1) y0 y1 y2 y3))
 | 0 => fun _ _ _ _ r h => by simp [cmp_Or_int.l0] at h
 | k + 1 => by
  have ih0 := cmp_Or_int.mono_l k
  ·intro y0 y1 y2 y3
   unfold cmp_Or_int.l0
   repeat' first
   | (with_reducible exact ih0 _ _ _ _)
   | (with_reducible exact LeO.refl _)
   | (with_reducible exact LeO.none _)
   | (with_reducible refine LeO.ite ?_ ?_)
   | (with_reducible refine LeO.bind ?_ (fun _ => ?_))
   | exact ih0 _ _ _ _
   | exact LeO.none _
   | refine LeO.ite ?_ ?_
   | refine LeO.bind ?_ (fun _ => ?_)
theorem cmp_Or_int.mono : ∀ a0 k, LeO (cmp_Or_int.f k a0) (cmp_Or_int.f (k + 1) a0) := by
 intro a0 k
 have ih0 := cmp_Or_int.mono_l k
 unfold cmp_Or_int.f
 repeat' first
   | (with_reducible exact ih0 _ _ _ _)
   | (with_reducible exact LeO.refl _)
   | (with_reducible exact LeO.none _)
   | (with_reducible refine LeO.ite ?_ ?_)
   | (with_reducible refine LeO.bind ?_ (fun _ => ?_))
   | exact ih0 _ _ _ _
   | exact LeO.none _
   | refine LeO.ite ?_ ?_
   | refine LeO.bind ?_ (fun _ => ?_)
set_option maxHeartbeats 8000000 in
set_option maxRecDepth 100000 in
theorem cmp_Or_int.calls (k : Nat) (A0 : Option Addr) (c0 : Nat) (l0 : List Int) (r : Int) (w : World) (hr0 : Kd.C (Kd.int .i64) w A0 l0.length l0) (hc0 : l0.length ≤ c0) (h : cmp_Or_int.f k l0 = some r) :
  Calls Try.prog 34 #[.slice A0 l0.length c0] w fun e w' => e = .returned (.int .i64 r) ∧ Drawn0 w w' := by
 have HR0 := Aside0.mk hr0
 have HC0 := Aside0.mk hc0
 clear hr0 hc0
 have H : (cmp_Or_int.l0 k 0 l0 (l0.length : Int) 0) = some r := h
 clear h
 have H' := Aside0.mk H
 clear H
 go_enter Try.func34, Try.ntmps34
 go_wp2
 go_loopg [8] k (fun kq v8 w' => ∃ (x8_1 : Int), v8 = .int .i64 x8_1 ∧ Aside0 (cmp_Or_int.l0 kq 0 l0 (l0.length : Int) x8_1 = some r) ∧ Aside0 (kq ≤ k) ∧ Drawn0 w w')
 case atStart => exact ⟨(0), (by first | rfl | (simp; done) | (simp [*]; done)), H', ⟨Nat.le_refl _⟩, by repeat (first | exact Drawn0.refl _ | apply Drawn0.step)⟩
 case round =>
  clear H'
  obtain ⟨x8_1, rfl, HA, HK1, ⟨m1, rfl⟩⟩ := hrel
  cases gk with
  | zero => exact absurd HA.out (by simp [cmp_Or_int.l0])
  | succ k1 =>
   have H := HA.out
   clear HA
   simp only [cmp_Or_int.l0] at H
   by_cases c2 : x8_1 < (l0.length : Int)
   ·rw [if_pos c2] at H
    have c2b0 : decide (x8_1 < (l0.length : Int)) = true := decide_eq_true c2
    clear c2
    by_cases c3 : 0 ≤ x8_1
    ·rw [if_pos c3] at H
     have c3b0 : decide (0 ≤ x8_1) = true := decide_eq_true c3
     clear c3
     by_cases c4 : x8_1 < (l0.length : Int)
     ·rw [if_pos c4] at H
      have c4b0 : decide (x8_1 < (l0.length : Int)) = true := decide_eq_true c4
      clear c4
      by_cases c5 : (rd l0 x8_1) = 0
      ·rw [if_pos c5] at H
       have c5b0 : ((rd l0 x8_1) == 0) = true := beq_iff_eq.mpr c5
       have c5b1 : ((rd l0 x8_1) != 0) = false := bne_eq_false_iff_eq.mpr c5
       clear c5
       have H' := Aside0.mk H
       clear H
       have p105 : 0 ≤ (x8_1 : Int) := of_decide_eq_true (by first | (with_reducible assumption) | assumption)
       have q105 : x8_1 < (l0.length : Int) := of_decide_eq_true (by first | (with_reducible assumption) | assumption)
       obtain ⟨ad105, e105, hx105_0⟩ := Kd.at_int HR0.out x8_1 p105 q105
       cases e105
       replace p105 := eq_true p105
       replace q105 := eq_true q105
       go_wp2
       go_roundg k1
       case measure => have := HK1.out; omega
       case rel => exact ⟨(wrap64 (x8_1 + 1)), (by first | rfl | (simp; done) | (simp [*]; done)), H', ⟨by have := HK1.out; omega⟩, by repeat (first | exact Drawn0.refl _ | apply Drawn0.step)⟩
      ·rw [if_neg c5] at H
       have c5b0 : ((rd l0 x8_1) == 0) = false := beq_eq_false_iff_ne.mpr c5
       have c5b1 : ((rd l0 x8_1) != 0) = true := bne_iff_ne.mpr c5
       obtain rfl := Option.some.inj H
       have p105 : 0 ≤ (x8_1 : Int) := of_decide_eq_true (by first | (with_reducible assumption) | assumption)
       have q105 : x8_1 < (l0.length : Int) := of_decide_eq_true (by first | (with_reducible assumption) | assumption)
       obtain ⟨ad105, e105, hx105_0⟩ := Kd.at_int HR0.out x8_1 p105 q105
       cases e105
       replace p105 := eq_true p105
       replace q105 := eq_true q105
       go_wp2
       go_ret
       exact ⟨by first | rfl | (simp; done) | (simp [*]; done), by repeat (first | exact Drawn0.refl _ | apply Drawn0.step)⟩
     ·rw [if_neg c4] at H
      exact absurd H (by simp)
    ·rw [if_neg c3] at H
     exact absurd H (by simp)
   ·rw [if_neg c2] at H
    have c2b0 : decide (x8_1 < (l0.length : Int)) = false := decide_eq_false c2
    clear c2
    obtain rfl := Option.some.inj H
    go_wp2
    go_ret
    exact ⟨by first | rfl | (simp; done) | (simp [*]; done), by repeat (first | exact Drawn0.refl _ | apply Drawn0.step)⟩

/-! ### cmp_isNaN_int: function 41 -/
def cmp_isNaN_int.f (a0 : Int) : Option (Bool) := some (a0 != a0)
set_option maxHeartbeats 8000000 in
set_option maxRecDepth 100000 in
theorem cmp_isNaN_int.calls (a0 : Int) (r : Bool) (w : World) (h : cmp_isNaN_int.f a0 = some r) :
    Calls Try.prog 41 #[.int .i64 a0] w fun e w' => e = .returned (.bool r) ∧ Drawn0 w w' := by
  have H : (some (a0 != a0)) = some r := h
  clear h
  obtain rfl := Option.some.inj H
  go_enter Try.func41, Try.ntmps41
  go_wp2
  go_ret
  exact ⟨by first | rfl | (simp; done) | (simp [*]; done), by repeat (first | exact Drawn0.refl _ | apply Drawn0.step)⟩

/-! ### cmp_Compare_int: function 35 -/
def cmp_Compare_int.f (a0 : Int) (a1 : Int) : Option (Int) := (cmp_isNaN_int.f a0).bind fun t106 => ((cmp_isNaN_int.f a1).bind fun t107 => (if t106 = true then (if t107 = true then (some 0) else (some (-1))) else (if t107 = true then (some 1) else (if a0 < a1 then (some (-1)) else (if a0 > a1 then (some 1) else (some 0))))))
set_option maxHeartbeats 8000000 in
set_option maxRecDepth 100000 in
theorem cmp_Compare_int.calls (a0 : Int) (a1 : Int) (r : Int) (w : World) (h : cmp_Compare_int.f a0 a1 = some r) :
  Calls Try.prog 35 #[.int .i64 a0, .int .i64 a1] w fun e w' => e = .returned (.int .i64 r) ∧ Drawn0 w w' := by
 have H : ((cmp_isNaN_int.f a0).bind fun t106 => ((cmp_isNaN_int.f a1).bind fun t107 => (if t106 = true then (if t107 = true then (some 0) else (some (-1))) else (if t107 = true then (some 1) else (if a0 < a1 then (some (-1)) else (if a0 > a1 then (some 1) else (some 0))))))) = some r := h
 clear h
 replace H := Option.bind_eq_some_iff.mp H
 obtain ⟨t106, A30, H⟩ := H
 replace H : ((cmp_isNaN_int.f a1).bind fun t107 => (if t106 = true then (if t107 = true then (some 0) else (some (-1))) else (if t107 = true then (some 1) else (if a0 < a1 then (some (-1)) else (if a0 > a1 then (some 1) else (some 0)))))) = some r := H
 have A3 := Aside0.mk A30
 clear A30
 replace H := Option.bind_eq_some_iff.mp H
 obtain ⟨t107, A40, H⟩ := H
 replace H : (if t106 = true then (if t107 = true then (some 0) else (some (-1))) else (if t107 = true then (some 1) else (if a0 < a1 then (some (-1)) else (if a0 > a1 then (some 1) else (some 0))))) = some r := H
 have A4 := Aside0.mk A40
 clear A40
 by_cases c5 : t106 = true
 ·subst c5
  have H1 : (if t107 = true then (some 0) else (some (-1))) = some r := by rw [if_pos rfl] at H; exact H
  clear H
  have H := H1
  clear H1
  by_cases c6 : t107 = true
  ·subst c6
   have H1 : (some 0) = some r := by rw [if_pos rfl] at H; exact H
   clear H
   have H := H1
   clear H1
   obtain rfl := Option.some.inj H
   go_enter Try.func35, Try.ntmps35
   go_wp2_with (first | ((with_reducible refine gate_callee (f := 41) rfl ?_); refine goesL_ (some 8) rfl rfl Try.func41 (by kernel_rfl) rfl #[.int .i64 a0] rfl (by (try simp only [List.map_toArray, List.map_cons, List.map_nil]); first | done | rfl | (simp only [List.length_drop, List.length_take]; rfl)) ?_; (with_reducible refine (cmp_isNaN_int.calls a0 true _ A3.out).mono ?_); rintro e w' ⟨rfl, ⟨nd, rfl⟩⟩; refine ⟨_, rfl, ?_⟩) | ((with_reducible refine gate_callee (f := 41) rfl ?_); refine goesL_ (some 10) rfl rfl Try.func41 (by kernel_rfl) rfl #[.int .i64 a1] rfl (by (try simp only [List.map_toArray, List.map_cons, List.map_nil]); first | done | rfl | (simp only [List.length_drop, List.length_take]; rfl)) ?_; (with_reducible refine (cmp_isNaN_int.calls a1 true _ A4.out).mono ?_); rintro e w' ⟨rfl, ⟨nd, rfl⟩⟩; refine ⟨_, rfl, ?_⟩))
   go_ret
   exact ⟨by first | rfl | (simp; done) | (simp [*]; done), by repeat (first | exact Drawn0.refl _ | apply Drawn0.step)⟩
  ·replace c6 := Bool.eq_false_iff.mpr c6
   subst c6
   have H1 : (some (-1)) = some r := by rw [if_neg (show ¬ (false = true) by decide)] at H; exact H
   clear H
   have H := H1
   clear H1
   obtain rfl := Option.some.inj H
   go_enter Try.func35, Try.ntmps35
   go_wp2_with (first | ((with_reducible refine gate_callee (f := 41) rfl ?_); refine goesL_ (some 8) rfl rfl Try.func41 (by kernel_rfl) rfl #[.int .i64 a0] rfl (by (try simp only [List.map_toArray, List.map_cons, List.map_nil]); first | done | rfl | (simp only [List.length_drop, List.length_take]; rfl)) ?_; (with_reducible refine (cmp_isNaN_int.calls a0 true _ A3.out).mono ?_); rintro e w' ⟨rfl, ⟨nd, rfl⟩⟩; refine ⟨_, rfl, ?_⟩) | ((with_reducible refine gate_callee (f := 41) rfl ?_); refine goesL_ (some 10) rfl rfl Try.func41 (by kernel_rfl) rfl #[.int .i64 a1] rfl (by (try simp only [List.map_toArray, List.map_cons, List.map_nil]); first | done | rfl | (simp only [List.length_drop, List.length_take]; rfl)) ?_; (with_reducible refine (cmp_isNaN_int.calls a1 false _ A4.out).mono ?_); rintro e w' ⟨rfl, ⟨nd, rfl⟩⟩; refine ⟨_, rfl, ?_⟩))
   go_ret
   exact ⟨by first | rfl | (simp; done) | (simp [*]; done), by repeat (first | exact Drawn0.refl _ | apply Drawn0.step)⟩
 ·replace c5 := Bool.eq_false_iff.mpr c5
  subst c5
  have H1 : (if t107 = true then (some 1) else (if a0 < a1 then (some (-1)) else (if a0 > a1 then (some 1) else (some 0)))) = some r := by rw [if_neg (show ¬ (false = true) by decide)] at H; exact H
  clear H
  have H := H1
  clear H1
  by_cases c7 : t107 = true
  ·subst c7
   have H1 : (some 1) = some r := by rw [if_pos rfl] at H; exact H
   clear H
   have H := H1
   clear H1
   obtain rfl := Option.some.inj H
   go_enter Try.func35, Try.ntmps35
   go_wp2_with (first | ((with_reducible refine gate_callee (f := 41) rfl ?_); refine goesL_ (some 8) rfl rfl Try.func41 (by kernel_rfl) rfl #[.int .i64 a0] rfl (by (try simp only [List.map_toArray, List.map_cons, List.map_nil]); first | done | rfl | (simp only [List.length_drop, List.length_take]; rfl)) ?_; (with_reducible refine (cmp_isNaN_int.calls a0 false _ A3.out).mono ?_); rintro e w' ⟨rfl, ⟨nd, rfl⟩⟩; refine ⟨_, rfl, ?_⟩) | ((with_reducible refine gate_callee (f := 41) rfl ?_); refine goesL_ (some 10) rfl rfl Try.func41 (by kernel_rfl) rfl #[.int .i64 a1] rfl (by (try simp only [List.map_toArray, List.map_cons, List.map_nil]); first | done | rfl | (simp only [List.length_drop, List.length_take]; rfl)) ?_; (with_reducible refine (cmp_isNaN_int.calls a1 true _ A4.out).mono ?_); rintro e w' ⟨rfl, ⟨nd, rfl⟩⟩; refine ⟨_, rfl, ?_⟩))
   go_ret
   exact ⟨by first | rfl | (simp; done) | (simp [*]; done), by repeat (first | exact Drawn0.refl _ | apply Drawn0.step)⟩
  ·replace c7 := Bool.eq_false_iff.mpr c7
   subst c7
   have H1 : (if a0 < a1 then (some (-1)) else (if a0 > a1 then (some 1) else (some 0))) = some r := by rw [if_neg (show ¬ (false = true) by decide)] at H; exact H
   clear H
   have H := H1
   clear H1
   by_cases c8 : a0 < a1
   ·rw [if_pos c8] at H
    have c8b0 : decide (a0 < a1) = true := decide_eq_true c8
    clear c8
    obtain rfl := Option.some.inj H
    go_enter Try.func35, Try.ntmps35
    go_wp2_with (first | ((with_reducible refine gate_callee (f := 41) rfl ?_); refine goesL_ (some 8) rfl rfl Try.func41 (by kernel_rfl) rfl #[.int .i64 a0] rfl (by (try simp only [List.map_toArray, List.map_cons, List.map_nil]); first | done | rfl | (simp only [List.length_drop, List.length_take]; rfl)) ?_; (with_reducible refine (cmp_isNaN_int.calls a0 false _ A3.out).mono ?_); rintro e w' ⟨rfl, ⟨nd, rfl⟩⟩; refine ⟨_, rfl, ?_⟩) | ((with_reducible refine gate_callee (f := 41) rfl ?_); refine goesL_ (some 10) rfl rfl Try.func41 (by kernel_rfl) rfl #[.int .i64 a1] rfl (by (try simp only [List.map_toArray, List.map_cons, List.map_nil]); first | done | rfl | (simp only [List.length_drop, List.length_take]; rfl)) ?_; (with_reducible refine (cmp_isNaN_int.calls a1 false _ A4.out).mono ?_); rintro e w' ⟨rfl, ⟨nd, rfl⟩⟩; refine ⟨_, rfl, ?_⟩))
    go_ret
    exact ⟨by first | rfl | (simp; done) | (simp [*]; done), by repeat (first | exact Drawn0.refl _ | apply Drawn0.step)⟩
   ·rw [if_neg c8] at H
    have c8b0 : decide (a0 < a1) = false := decide_eq_false c8
    clear c8
    by_cases c9 : a0 > a1
    ·rw [if_pos c9] at H
     have c9b0 : decide (a1 < a0) = true := decide_eq_true c9
     clear c9
     obtain rfl := Option.some.inj H
     go_enter Try.func35, Try.ntmps35
     go_wp2_with (first | ((with_reducible refine gate_callee (f := 41) rfl ?_); refine goesL_ (some 8) rfl rfl Try.func41 (by kernel_rfl) rfl #[.int .i64 a0] rfl (by (try simp only [List.map_toArray, List.map_cons, List.map_nil]); first | done | rfl | (simp only [List.length_drop, List.length_take]; rfl)) ?_; (with_reducible refine (cmp_isNaN_int.calls a0 false _ A3.out).mono ?_); rintro e w' ⟨rfl, ⟨nd, rfl⟩⟩; refine ⟨_, rfl, ?_⟩) | ((with_reducible refine gate_callee (f := 41) rfl ?_); refine goesL_ (some 10) rfl rfl Try.func41 (by kernel_rfl) rfl #[.int .i64 a1] rfl (by (try simp only [List.map_toArray, List.map_cons, List.map_nil]); first | done | rfl | (simp only [List.length_drop, List.length_take]; rfl)) ?_; (with_reducible refine (cmp_isNaN_int.calls a1 false _ A4.out).mono ?_); rintro e w' ⟨rfl, ⟨nd, rfl⟩⟩; refine ⟨_, rfl, ?_⟩))
     go_ret
     exact ⟨by first | rfl | (simp; done) | (simp [*]; done), by repeat (first | exact Drawn0.refl _ | apply Drawn0.step)⟩
    ·rw [if_neg c9] at H
     have c9b0 : decide (a1 < a0) = false := decide_eq_false c9
     clear c9
     obtain rfl := Option.some.inj H
     go_enter Try.func35, Try.ntmps35
     go_wp2_with (first | ((with_reducible refine gate_callee (f := 41) rfl ?_); refine goesL_ (some 8) rfl rfl Try.func41 (by kernel_rfl) rfl #[.int .i64 a0] rfl (by (try simp only [List.map_toArray, List.map_cons, List.map_nil]); first | done | rfl | (simp only [List.length_drop, List.length_take]; rfl)) ?_; (with_reducible refine (cmp_isNaN_int.calls a0 false _ A3.out).mono ?_); rintro e w' ⟨rfl, ⟨nd, rfl⟩⟩; refine ⟨_, rfl, ?_⟩) | ((with_reducible refine gate_callee (f := 41) rfl ?_); refine goesL_ (some 10) rfl rfl Try.func41 (by kernel_rfl) rfl #[.int .i64 a1] rfl (by (try simp only [List.map_toArray, List.map_cons, List.map_nil]); first | done | rfl | (simp only [List.length_drop, List.length_take]; rfl)) ?_; (with_reducible refine (cmp_isNaN_int.calls a1 false _ A4.out).mono ?_); rintro e w' ⟨rfl, ⟨nd, rfl⟩⟩; refine ⟨_, rfl, ?_⟩))
     go_ret
     exact ⟨by first | rfl | (simp; done) | (simp [*]; done), by repeat (first | exact Drawn0.refl _ | apply Drawn0.step)⟩

end Go.Proofs.Ythdmkacnkdmbiaa.PRecordStaged
