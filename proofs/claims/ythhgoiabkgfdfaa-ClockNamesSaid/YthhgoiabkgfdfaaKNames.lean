/- The walk of the law ClockNames (typed by hand, over the walks of ClockRises' texts). -/
import Derived.Test.YthhgoiabkgfdfaaKPlays
import Derived.Test.YthhgoiabkgfdfaaPClockRisesx5
import Derived.Test.YthhgoiabkgfdfaaPClockRisesx0
import Derived.Test.YthhgoiabkgfdfaaPClockRisesx1
import Derived.Test.YthhgoiabkgfdfaaPClockRisesx2
import Derived.Test.YthhgoiabkgfdfaaPClockRisesx3
import Derived.Test.YthhgoiabkgfdfaaPClockRisesx4
namespace Go.Proofs.Ythhgoiabkgfdfaa.PClockRises
open Go.RowKit Go.Proofs.YthhgoiabkgfdfaaW.PrintWords Go.Proofs.YthhgoiabkgfdfaaW.PrintLast Go.Proofs.YthhgoiabkgfdfaaW.PrintMore
attribute [local go_sem] max2_int min2_int max_two min_two max_three min_three max_four min_four   -- for this text's walks alone
attribute [local go_sem] fld_wall fld_logic
set_option linter.unusedVariables false
set_option linter.unusedSimpArgs false

attribute [local go_sem high] eqA33
/-! ### the law ClockNames -/
/-- No clock: a nil pointer, or one that New has not made. -/
def NoClk (p : Option Addr) (W : World) : Prop := p = none ∨ ∃ g, p = some ⟨g, 0, none⟩ ∧ W.heap[g]? = some (.cells #[.int .i64 0, .int .i64 0, .int .i64 0, .int .i64 0, .int .i64 0, .int .i64 0, .bool false] 51 (0, 0))
theorem NoClk.below {p : Option Addr} {W W' : World} (h : NoClk p W) (hb : Below W.heap.size W W') : NoClk p W' := by
  rcases h with h | ⟨g, h1, h2⟩
  · exact .inl h
  · exact .inr ⟨g, h1, (hb.block _ (Array.getElem?_eq_some_iff.1 h2).1).trans h2⟩
set_option maxHeartbeats 16000000 in
set_option maxRecDepth 100000 in
theorem nc_none (p : Option Addr) (W : World) (h : NoClk p W) : Calls Try.prog 29 #[.pointer p] W fun e w' => e = .returned (.bool true) ∧ Below W.heap.size W w' := by
  rcases h with h | h
  · subst h
    go_enter Try.func29, Try.ntmps29
    go_wp2
    go_ret
    exact ⟨rfl, Below.refl _ _⟩
  · obtain ⟨g, rfl, h2⟩ := h
    have h6 : W.cell? ⟨g, 6, none⟩ = some (.bool false) := (blk_cell h2 6).trans rfl
    clear h2
    go_enter Try.func29, Try.ntmps29
    go_wp2
    go_ret
    exact ⟨rfl, Below.refl _ _⟩
set_option maxHeartbeats 16000000 in
set_option maxRecDepth 100000 in
theorem nc_set (p : Option Addr) (a : Int) (W : World) (h : NoClk p W) : Calls Try.prog 11 #[.pointer p, .int .i64 a] W fun e w' => e = .returned (.int .i64 1) ∧ Below W.heap.size W w' := by
  rcases h with h | h
  · subst h
    go_enter Try.func11, Try.ntmps11
    go_wp2
    go_ret
    exact ⟨rfl, Below.refl _ _⟩
  · obtain ⟨g, rfl, h2⟩ := h
    have h6 : W.cell? ⟨g, 6, none⟩ = some (.bool false) := (blk_cell h2 6).trans rfl
    clear h2
    go_enter Try.func11, Try.ntmps11
    go_wp2
    go_ret
    exact ⟨rfl, Below.refl _ _⟩
set_option maxHeartbeats 16000000 in
set_option maxRecDepth 100000 in
theorem nc_raise (p : Option Addr) (a : Int) (W : World) (h : NoClk p W) : Calls Try.prog 10 #[.pointer p, .int .i64 a] W fun e w' => e = .returned (.int .i64 1) ∧ Below W.heap.size W w' := by
  rcases h with h | h
  · subst h
    go_enter Try.func10, Try.ntmps10
    go_wp2
    go_ret
    exact ⟨rfl, Below.refl _ _⟩
  · obtain ⟨g, rfl, h2⟩ := h
    have h6 : W.cell? ⟨g, 6, none⟩ = some (.bool false) := (blk_cell h2 6).trans rfl
    clear h2
    go_enter Try.func10, Try.ntmps10
    go_wp2
    go_ret
    exact ⟨rfl, Below.refl _ _⟩
set_option maxHeartbeats 16000000 in
set_option maxRecDepth 100000 in
theorem nc_reading (p : Option Addr) (W : World) (h : NoClk p W) : Calls Try.prog 13 #[.pointer p] W fun e w' => e = .returned (.int .i64 0) ∧ Below W.heap.size W w' := by
  rcases h with h | h
  · subst h
    go_enter Try.func13, Try.ntmps13
    go_wp2
    go_ret
    exact ⟨rfl, Below.refl _ _⟩
  · obtain ⟨g, rfl, h2⟩ := h
    have h6 : W.cell? ⟨g, 6, none⟩ = some (.bool false) := (blk_cell h2 6).trans rfl
    clear h2
    go_enter Try.func13, Try.ntmps13
    go_wp2
    go_ret
    exact ⟨rfl, Below.refl _ _⟩
set_option maxHeartbeats 16000000 in
set_option maxRecDepth 100000 in
theorem nc_bound (p : Option Addr) (W : World) (h : NoClk p W) : Calls Try.prog 22 #[.pointer p] W fun e w' => e = .returned (.int .i64 0) ∧ Below W.heap.size W w' := by
  rcases h with h | h
  · subst h
    go_enter Try.func22, Try.ntmps22
    go_wp2
    go_ret
    exact ⟨rfl, Below.refl _ _⟩
  · obtain ⟨g, rfl, h2⟩ := h
    have h6 : W.cell? ⟨g, 6, none⟩ = some (.bool false) := (blk_cell h2 6).trans rfl
    clear h2
    go_enter Try.func22, Try.ntmps22
    go_wp2
    go_ret
    exact ⟨rfl, Below.refl _ _⟩
set_option maxHeartbeats 16000000 in
set_option maxRecDepth 100000 in
theorem nc_ready (p : Option Addr) (W : World) (h : NoClk p W) : Calls Try.prog 19 #[.pointer p] W fun e w' => e = .returned (.bool false) ∧ Below W.heap.size W w' := by
  have HL := Aside0.mk h
  clear h
  go_enter Try.func19, Try.ntmps19
  go_wp2_with fail
  refine wp_region_noPanic ?_
  refine wp_region_held_drew (S := (fun _ => True)) (by kernel_rfl) trivial (fun hHeld => ?_)
  refine wpAnyH_take (i := 0) (oi := ⟨some 3, _, _, _, _, none⟩) (v := ?v1) rfl (by kernel_rfl) (by kernel_rfl) (by kernel_rfl) (fun _ _ _ h => h) (Or.inl ⟨by rfl, ?hy1⟩) (by with_reducible assumption) ?rest1
  case hy1 => (intro V_ hSw; (try dsimp only at hSw); go_simp; (try with_reducible rfl))
  case' rest1 => skip
  try simp only [Act.put, List.setIfInBounds_toArray, List.set_cons_zero, List.set_cons_succ]
  refine wpAnyH_ready (rs := [1]) (by kernel_rfl) (by simp) ?_
  refine AllReadyH.cons (o := ⟨some 4, _, _, _, _, none⟩) rfl (fun K hK => ?_) ?_
  · go_simp
    refine (nc_none p _ (HL.out.below (below_drew1 (Below.refl W.heap.size W)))).mono ?_
    rintro e w1 ⟨rfl, hb1⟩
    have HB1 := Aside0.mk (below_step (below_drew1 (Below.refl W.heap.size W)) hb1)
    clear hb1
    refine hK.out _ _ trivial (fun hHeld => ?_)
    clear hK K
    try simp only [Act.put, List.setIfInBounds_toArray, List.set_cons_zero, List.set_cons_succ]
    refine wpAnyH_take (i := 2) (oi := ⟨some 5, _, _, _, _, none⟩) (v := ?v2) rfl (by kernel_rfl) (by kernel_rfl) (by kernel_rfl) (fun _ _ _ h => h) (Or.inl ⟨by rfl, ?hy2⟩) (by with_reducible assumption) ?rest2
    case hy2 => (intro V_ hSw; (try dsimp only at hSw); go_simp; (try with_reducible rfl))
    case' rest2 => skip
    try simp only [Act.put, List.setIfInBounds_toArray, List.set_cons_zero, List.set_cons_succ]
    refine wpAnyH_take (i := 3) (oi := ⟨some 6, _, _, _, _, none⟩) (v := ?v3) rfl (by kernel_rfl) (by kernel_rfl) (by kernel_rfl) (fun _ _ _ h => h) (Or.inl ⟨by rfl, ?hy3⟩) (by with_reducible assumption) ?rest3
    case hy3 => (intro V_ hSw; (try dsimp only at hSw); go_simp; (try with_reducible rfl))
    case' rest3 => skip
    try simp only [Act.put, List.setIfInBounds_toArray, List.set_cons_zero, List.set_cons_succ]
    refine wpAnyH_take (i := 4) (oi := ⟨some 7, _, _, _, _, some (3, true)⟩) rfl (by kernel_rfl) (by kernel_rfl) (by kernel_rfl) (fun _ _ _ h => h) (Or.inr ⟨by rfl, rfl⟩) (by with_reducible assumption) ?_
    try simp only [Act.put, List.setIfInBounds_toArray, List.set_cons_zero, List.set_cons_succ]
    refine wpAnyH_take (i := 5) (oi := ⟨some 8, _, _, _, _, some (3, true)⟩) rfl (by kernel_rfl) (by kernel_rfl) (by kernel_rfl) (fun _ _ _ h => h) (Or.inr ⟨by rfl, rfl⟩) (by with_reducible assumption) ?_
    try simp only [Act.put, List.setIfInBounds_toArray, List.set_cons_zero, List.set_cons_succ]
    refine wpAnyH_take (i := 6) (oi := ⟨some 9, _, _, _, _, some (3, true)⟩) rfl (by kernel_rfl) (by kernel_rfl) (by kernel_rfl) (fun _ _ _ h => h) (Or.inr ⟨by rfl, rfl⟩) (by with_reducible assumption) ?_
    try simp only [Act.put, List.setIfInBounds_toArray, List.set_cons_zero, List.set_cons_succ]
    refine wpAnyH_take (i := 7) (oi := ⟨some 10, _, _, _, _, some (3, true)⟩) rfl (by kernel_rfl) (by kernel_rfl) (by kernel_rfl) (fun _ _ _ h => h) (Or.inr ⟨by rfl, rfl⟩) (by with_reducible assumption) ?_
    try simp only [Act.put, List.setIfInBounds_toArray, List.set_cons_zero, List.set_cons_succ]
    refine wpAnyH_take (i := 8) (oi := ⟨some 11, _, _, _, _, some (3, true)⟩) rfl (by kernel_rfl) (by kernel_rfl) (by kernel_rfl) (fun _ _ _ h => h) (Or.inr ⟨by rfl, rfl⟩) (by with_reducible assumption) ?_
    try simp only [Act.put, List.setIfInBounds_toArray, List.set_cons_zero, List.set_cons_succ]
    refine wpAnyH_take (i := 9) (oi := ⟨some 12, _, _, _, _, some (3, true)⟩) rfl (by kernel_rfl) (by kernel_rfl) (by kernel_rfl) (fun _ _ _ h => h) (Or.inr ⟨by rfl, rfl⟩) (by with_reducible assumption) ?_
    try simp only [Act.put, List.setIfInBounds_toArray, List.set_cons_zero, List.set_cons_succ]
    refine wpAnyH_take (i := 10) (oi := ⟨some 13, _, _, _, _, some (3, true)⟩) rfl (by kernel_rfl) (by kernel_rfl) (by kernel_rfl) (fun _ _ _ h => h) (Or.inr ⟨by rfl, rfl⟩) (by with_reducible assumption) ?_
    try simp only [Act.put, List.setIfInBounds_toArray, List.set_cons_zero, List.set_cons_succ]
    refine wpAnyH_take (i := 11) (oi := ⟨some 14, _, _, _, _, some (3, true)⟩) rfl (by kernel_rfl) (by kernel_rfl) (by kernel_rfl) (fun _ _ _ h => h) (Or.inr ⟨by rfl, rfl⟩) (by with_reducible assumption) ?_
    try simp only [Act.put, List.setIfInBounds_toArray, List.set_cons_zero, List.set_cons_succ]
    refine wpAnyH_take (i := 12) (oi := ⟨some 15, _, _, _, _, some (3, true)⟩) rfl (by kernel_rfl) (by kernel_rfl) (by kernel_rfl) (fun _ _ _ h => h) (Or.inr ⟨by rfl, rfl⟩) (by with_reducible assumption) ?_
    try simp only [Act.put, List.setIfInBounds_toArray, List.set_cons_zero, List.set_cons_succ]
    refine wpAnyH_take (i := 13) (oi := ⟨some 16, _, _, _, _, none⟩) (v := ?v4) rfl (by kernel_rfl) (by kernel_rfl) (by kernel_rfl) (fun _ _ _ h => h) (Or.inl ⟨by rfl, ?hy4⟩) (by with_reducible assumption) ?rest4
    case hy4 => (intro V_ hSw; (try dsimp only at hSw); go_simp; (try with_reducible rfl))
    case' rest4 => skip
    try simp only [Act.put, List.setIfInBounds_toArray, List.set_cons_zero, List.set_cons_succ]
    refine wpAnyH_take (i := 14) (oi := ⟨some 2, _, _, _, _, none⟩) (v := ?v5) rfl (by kernel_rfl) (by kernel_rfl) (by kernel_rfl) (fun _ _ _ h => h) (Or.inl ⟨by rfl, ?hy5⟩) (by with_reducible assumption) ?rest5
    case hy5 => (intro V_ hSw; (try dsimp only at hSw); go_simp; (try with_reducible rfl))
    case' rest5 => skip
    try simp only [Act.put, List.setIfInBounds_toArray, List.set_cons_zero, List.set_cons_succ]
    refine wpAnyH_done (by kernel_rfl) ?_ _
    refine NoPanic.normal ?_
    go_wp2
    go_ret
    exact ⟨rfl, HB1.out⟩
  exact AllReadyH.nil
set_option maxHeartbeats 16000000 in
set_option maxRecDepth 100000 in
theorem nc_now (p : Option Addr) (W : World) (h : NoClk p W) : Calls Try.prog 14 #[.pointer p] W fun e w' => e = .returned (.tuple #[.agg #[.int .i64 0, .int .i64 0], .int .i64 1]) ∧ Below W.heap.size W w' := by
  have HL := Aside0.mk h
  clear h
  go_enter Try.func14, Try.ntmps14
  go_wp2_with fail
  refine (nc_none p _ (HL.out.below (alloc_new _ _))).mono ?_
  rintro e w1 ⟨rfl, hb1⟩
  have hbr := blk_ckept (World.alloc_heap_new W (Obj.cells #[Value.int IntKind.i64 0, Value.int IntKind.i64 0] 33)) hb1
  have HBR := Aside0.mk hbr
  have r0 : w1.cell? ⟨W.heap.size, 0, none⟩ = some (.int .i64 0) := (blk_cell hbr 0).trans rfl
  have r1 : w1.cell? ⟨W.heap.size, 1, none⟩ = some (.int .i64 0) := (blk_cell hbr 1).trans rfl
  have f0 := blk_frozen hbr 0
  have f1 := blk_frozen hbr 1
  have HB1 := Aside0.mk (below_step (alloc_new W _) hb1)
  clear hb1 hbr
  go_wp2
  refine bodyPost_ret (results_ct rfl _ _ W.heap.size 33 #[.int .i64 0, .int .i64 0] (0, 0) _ rfl (blk_put (cs := #[.int .i64 0, .int .i64 0]) (blk_put (cs := #[.int .i64 0, .int .i64 0]) HBR.out 0 _ rfl) 1 _ rfl) Try.underlying33 rfl (by kernel_rfl)) rfl ?_
  exact ⟨rfl, Below.setCell (Below.setCell HB1.out (p := ⟨W.heap.size, 0, none⟩) (Nat.le_refl _) _) (p := ⟨W.heap.size, 1, none⟩) (Nat.le_refl _) _⟩
set_option maxHeartbeats 16000000 in
set_option maxRecDepth 100000 in
theorem nc_see (p : Option Addr) (x y : Int) (W : World) (h : NoClk p W) : Calls Try.prog 15 #[.pointer p, .agg #[.int .i64 x, .int .i64 y]] W fun e w' => e = .returned (.int .i64 1) ∧ Below W.heap.size W w' := by
  have HL := Aside0.mk h
  clear h
  go_enter Try.func15, Try.ntmps15
  go_wp2_with fail
  refine (nc_none p _ (HL.out.below (alloc_new _ _))).mono ?_
  rintro e w1 ⟨rfl, hb1⟩
  have HB1 := Aside0.mk (below_step (alloc_new W _) hb1)
  clear hb1
  go_wp2
  go_ret
  exact ⟨rfl, by first | exact HB1.out | exact below_alloc HB1.out _ | exact pw_below_drewN HB1.out _⟩
set_option maxHeartbeats 16000000 in
set_option maxRecDepth 100000 in
theorem nc_last (p : Option Addr) (W : World) (h : NoClk p W) : Calls Try.prog 21 #[.pointer p] W fun e w' => e = .returned (.agg #[.int .i64 0, .int .i64 0]) ∧ Below W.heap.size W w' := by
  have HL := Aside0.mk h
  clear h
  go_enter Try.func21, Try.ntmps21
  go_wp2_with fail
  refine (nc_none p _ (HL.out.below (alloc_new _ _))).mono ?_
  rintro e w1 ⟨rfl, hb1⟩
  have hbr := blk_ckept (World.alloc_heap_new W (Obj.cells #[Value.int IntKind.i64 0, Value.int IntKind.i64 0] 33)) hb1
  have HBR := Aside0.mk hbr
  have r0 : w1.cell? ⟨W.heap.size, 0, none⟩ = some (.int .i64 0) := (blk_cell hbr 0).trans rfl
  have r1 : w1.cell? ⟨W.heap.size, 1, none⟩ = some (.int .i64 0) := (blk_cell hbr 1).trans rfl
  have f0 := blk_frozen hbr 0
  have f1 := blk_frozen hbr 1
  have HB1 := Aside0.mk (below_step (alloc_new W _) hb1)
  clear hb1 hbr
  go_wp2
  refine bodyPost_ret (results_cell_row rfl _ _ W.heap.size 33 #[.int .i64 0, .int .i64 0] (0, 0) _ rfl (blk_put (cs := #[.int .i64 0, .int .i64 0]) (blk_put (cs := #[.int .i64 0, .int .i64 0]) HBR.out 0 _ rfl) 1 _ rfl) Try.underlying33 rfl (by kernel_rfl)) rfl ?_
  exact ⟨rfl, Below.setCell (Below.setCell HB1.out (p := ⟨W.heap.size, 0, none⟩) (Nat.le_refl _) _) (p := ⟨W.heap.size, 1, none⟩) (Nat.le_refl _) _⟩
theorem info45_ : (Try.prog.info? 45).map (fun i => (i.zero, i.size, i.bytes)) = some (some (.agg #[.int .i64 0, .int .i64 0, .int .i64 0, .int .i64 0]), 4, 32) := by kernel_rfl
theorem ends_at {V : World} {g : Nat} (h : V.heap[g]? = some (.cells #[.int .i64 (-1), .int .i64 0, .int .i64 1, .int .i64 1099511627775, .int .i64 1099511627776, .int .i64 1099511627777] 3 (0, 0))) (i : Nat) (hi : i < 6) : ∃ x : Int, ∀ V' : World, V'.heap[g]? = some (.cells #[.int .i64 (-1), .int .i64 0, .int .i64 1, .int .i64 1099511627775, .int .i64 1099511627776, .int .i64 1099511627777] 3 (0, 0)) → V'.cell? ⟨g, i, none⟩ = some (.int .i64 x) := by
  have h6 : i = 0 ∨ i = 1 ∨ i = 2 ∨ i = 3 ∨ i = 4 ∨ i = 5 := by omega
  rcases h6 with rfl | rfl | rfl | rfl | rfl | rfl
  · exact ⟨_, fun V' h' => (blk_cell h' 0).trans rfl⟩
  · exact ⟨_, fun V' h' => (blk_cell h' 1).trans rfl⟩
  · exact ⟨_, fun V' h' => (blk_cell h' 2).trans rfl⟩
  · exact ⟨_, fun V' h' => (blk_cell h' 3).trans rfl⟩
  · exact ⟨_, fun V' h' => (blk_cell h' 4).trans rfl⟩
  · exact ⟨_, fun V' h' => (blk_cell h' 5).trans rfl⟩
def scriptoriumlaw06_ClockNames.f : Option Bool := some true
set_option maxHeartbeats 16000000 in
set_option maxRecDepth 100000 in
theorem scriptoriumlaw06_ClockNames.calls (w : World) (hA : ∃ k, scriptoriumlaw06_awake.f k = some true) : Calls Try.prog 6 #[] w fun e w' => e = .returned (.bool true) ∧ Below w.heap.size w w' := by
  obtain ⟨k, hA⟩ := hA
  have HA := Aside0.mk hA
  clear hA
  go_enter Try.func6, Try.ntmps6
  go_wp2_with fail
  go_loopg [1, 2] 3 (fun kq v1 v2 w' => ∃ (i : Nat) (p : Option Addr), v1 = .pointer p ∧ v2 = .int .i64 (i : Int) ∧ Aside0 (i + kq = 3) ∧ Aside0 (NoClk p w') ∧ Aside0 (Below w.heap.size w w'))
  case atStart => exact ⟨0, none, rfl, rfl, ⟨rfl⟩, ⟨.inl rfl⟩, ⟨Below.refl _ _⟩⟩
  case round =>
    obtain ⟨i, p, rfl, rfl, HI, HN, HB⟩ := hrel
    by_cases h1 : i < 2
    case pos =>
      have d1 : decide ((i : Int) < 2) = true := decide_eq_true (by omega)
      have hwi : Go.RowKit.wrap64 ((i : Int) + 1) = ((i + 1 : Nat) : Int) := by
        unfold Go.RowKit.wrap64
        omega
      have HWI := Aside0.mk hwi
      have HWI2 := Aside0.mk ((i64_w ((i : Int) + 1)).trans hwi)
      have HH2 := Aside0.mk h1
      clear hwi h1
      go_wp2_with fail
      refine (nc_now p _ HN.out).mono ?_
      rintro e w1 ⟨rfl, hb⟩
      have n1_ := Aside0.mk (HN.out.below hb)
      have n2_ := Aside0.mk (below_step HB.out hb)
      clear HN HB hb
      have HN := n1_
      have HB := n2_
      clear n1_ n2_
      go_upto_region 6 with fail
      generalize hwa : World.alloc w1 _ = w2
      have n1_ := Aside0.mk (show NoClk p w2 from by rw [← hwa]; exact HN.out.below (alloc_new _ _))
      have n2_ := Aside0.mk (show Below w.heap.size w w2 from by rw [← hwa]; exact below_alloc HB.out _)
      have HG := Aside0.mk (show w2.heap[w1.heap.size]? = some (.cells #[.int .i64 0, .int .i64 0] 33 (0, 0)) from by rw [← hwa]; exact blk_new w1 _)
      clear HN HB hwa
      have HN := n1_
      have HB := n2_
      clear n1_ n2_
      have x0 : w2.cell? ⟨w1.heap.size, 0, none⟩ = some (.int .i64 0) := (blk_cell HG.out 0).trans rfl
      have x1 : w2.cell? ⟨w1.heap.size, 1, none⟩ = some (.int .i64 0) := (blk_cell HG.out 1).trans rfl
      go_wp2_with fail
      refine (nc_set p 1 _ HN.out).mono ?_
      rintro e w1 ⟨rfl, hb⟩
      have n1_ := Aside0.mk (HN.out.below hb)
      have n2_ := Aside0.mk (below_step HB.out hb)
      clear HN HB hb
      have HN := n1_
      have HB := n2_
      clear n1_ n2_
      go_wp2_with fail
      refine (nc_raise p 1 _ HN.out).mono ?_
      rintro e w1 ⟨rfl, hb⟩
      have n1_ := Aside0.mk (HN.out.below hb)
      have n2_ := Aside0.mk (below_step HB.out hb)
      clear HN HB hb
      have HN := n1_
      have HB := n2_
      clear n1_ n2_
      go_wp2_with fail
      refine (nc_see p (-1) 0 _ HN.out).mono ?_
      rintro e w1 ⟨rfl, hb⟩
      have n1_ := Aside0.mk (HN.out.below hb)
      have n2_ := Aside0.mk (below_step HB.out hb)
      clear HN HB hb
      have HN := n1_
      have HB := n2_
      clear n1_ n2_
      go_wp2_with fail
      refine (nc_ready p _ HN.out).mono ?_
      rintro e w1 ⟨rfl, hb⟩
      have n1_ := Aside0.mk (HN.out.below hb)
      have n2_ := Aside0.mk (below_step HB.out hb)
      clear HN HB hb
      have HN := n1_
      have HB := n2_
      clear n1_ n2_
      go_wp2_with fail
      refine (nc_reading p _ HN.out).mono ?_
      rintro e w1 ⟨rfl, hb⟩
      have n1_ := Aside0.mk (HN.out.below hb)
      have n2_ := Aside0.mk (below_step HB.out hb)
      clear HN HB hb
      have HN := n1_
      have HB := n2_
      clear n1_ n2_
      go_wp2_with fail
      refine (nc_bound p _ HN.out).mono ?_
      rintro e w1 ⟨rfl, hb⟩
      have n1_ := Aside0.mk (HN.out.below hb)
      have n2_ := Aside0.mk (below_step HB.out hb)
      clear HN HB hb
      have HN := n1_
      have HB := n2_
      clear n1_ n2_
      go_wp2_with fail
      refine (nc_last p _ HN.out).mono ?_
      rintro e w1 ⟨rfl, hb⟩
      have n1_ := Aside0.mk (HN.out.below hb)
      have n2_ := Aside0.mk (below_step HB.out hb)
      clear HN HB hb
      have HN := n1_
      have HB := n2_
      clear n1_ n2_
      go_wp2_with fail
      go_roundg (2 - i)
      case measure => have h1 := HI.out; have h2 := HH2.out; omega
      case rel => exact ⟨i + 1, _, rfl, congrArg (Value.int .i64) (by first | exact HWI.out | exact HWI2.out | rfl | omega), ⟨by have h1 := HI.out; have h2 := HH2.out; omega⟩, ⟨.inr ⟨_, rfl, blk_new _ _⟩⟩, ⟨below_alloc HB.out _⟩⟩
    case neg =>
      have d1 : decide ((i : Int) < 2) = false := decide_eq_false (by omega)
      go_upto_region 11 with fail
      generalize hwa : World.alloc wr _ = w2
      have HE := Aside0.mk (show w2.heap[wr.heap.size]? = some (.cells #[.int .i64 (-1), .int .i64 0, .int .i64 1, .int .i64 1099511627775, .int .i64 1099511627776, .int .i64 1099511627777] 3 (0, 0)) from by rw [← hwa]; exact blk_new wr _)
      have HBW := Aside0.mk (show Below w.heap.size w w2 from by rw [← hwa]; exact below_alloc HB.out _)
      clear hwa HB HN d1 h1 HI
      have hE : ∀ i < 6, ∃ x : Int, ∀ V, Below w2.heap.size w2 V → V.cell? ((⟨wr.heap.size, 0, none⟩ : Addr).add i) = some (.int .i64 x) := fun i hi => by
        obtain ⟨x, hx⟩ := ends_at HE.out i hi
        exact ⟨x, fun V hb => (congrArg V.cell? (by simp [Addr.add]; intro h; omega)).trans (hx V ((hb.block _ (Array.getElem?_eq_some_iff.1 HE.out).1).trans HE.out))⟩
      have HAT := Aside0.mk hE
      clear hE HE
      generalize (⟨wr.heap.size, 0, none⟩ : Addr) = ad at HAT ⊢
      go_wp2_with fail
      go_loopg [7, 8] 7 (fun kq v7 v8 w' => ∃ (i : Nat) (A : Option Addr) (c : Nat) (xs : List S45), v7 = .slice A xs.length c ∧ v8 = .int .i64 (i : Int) ∧ Aside0 (i + kq = 7) ∧ Aside0 (xs.length = 9 * i) ∧ Aside0 (i ≤ 6) ∧ Aside0 (Kd.R k45 45 w' w2.heap.size (fun _ => True) (.slice A xs.length c) xs) ∧ Aside0 (Below w2.heap.size w2 w'))
      case atStart => exact ⟨0, none, 0, [], rfl, rfl, ⟨rfl⟩, ⟨rfl⟩, ⟨by omega⟩, ⟨Kd.R_nil _ _ _ _ _⟩, ⟨Below.refl _ _⟩⟩
      case round =>
        obtain ⟨i, A, c, xs, rfl, rfl, HI, HL6, HI6, HR, HB2⟩ := hrel
        by_cases h1 : i < 6
        case pos =>
          have d1 : decide ((i : Int) < 6) = true := decide_eq_true (by omega)
          obtain ⟨x, hx⟩ := HAT.out i h1
          have HX := Aside0.mk hx
          have HH2 := Aside0.mk h1
          have hwi : Go.RowKit.wrap64 ((i : Int) + 1) = ((i + 1 : Nat) : Int) := by
            unfold Go.RowKit.wrap64
            omega
          have HWI := Aside0.mk hwi
          have HWI2 := Aside0.mk ((i64_w ((i : Int) + 1)).trans hwi)
          clear hwi
          have p_i := eq_true (show (0 : Int) ≤ (i : Int) by omega)
          have q_i := eq_true (show (i : Int) < 6 by omega)
          clear hx
          go_upto_region 15 with fail
          refine wp_region_noPanic ?_
          refine wp_region_held_drew (S := (fun V => V.cell? (ad.add i) = some (.int .i64 x))) (by kernel_rfl) (HX.out _ (below_step HB2.out (below_drew1 (Below.refl _ _)))) (fun hHeld => ?_)
          generalize hwd : World.drew _ = wd at hHeld ⊢
          have HBd := Aside0.mk (show Below w2.heap.size w2 wd from by rw [← hwd]; exact below_step HB2.out (below_drew1 (Below.refl _ _)))
          have HRd := Aside0.mk (show Kd.R k45 45 wd w2.heap.size (fun _ => True) (.slice A xs.length c) xs from by rw [← hwd]; exact Kd.R_drew HR.out)
          clear hwd
          refine wpAnyH_take (i := 0) (oi := ⟨some 75, _, _, _, _, none⟩) (v := ?v6) rfl (by kernel_rfl) (by kernel_rfl) (by kernel_rfl) (fun _ _ _ h => h) (Or.inl ⟨by rfl, ?hy6⟩) (by with_reducible assumption) ?rest6
          case hy6 => (intro V_ hSw; (try dsimp only at hSw); go_simp; (try with_reducible rfl))
          case' rest6 => skip
          try simp only [Act.put, List.setIfInBounds_toArray, List.set_cons_zero, List.set_cons_succ]
          refine wpAnyH_take (i := 1) (oi := ⟨some 76, _, _, _, _, none⟩) (v := ?v7) rfl (by kernel_rfl) (by kernel_rfl) (by kernel_rfl) (fun _ _ _ h => h) (Or.inl ⟨by rfl, ?hy7⟩) (by with_reducible assumption) ?rest7
          case hy7 => (intro V_ hSw; (try dsimp only at hSw); go_simp; (try with_reducible rfl))
          case' rest7 => skip
          try simp only [Act.put, List.setIfInBounds_toArray, List.set_cons_zero, List.set_cons_succ]
          refine wpAnyH_take (i := 2) (oi := ⟨some 77, _, _, _, _, none⟩) (v := ?v8) rfl (by kernel_rfl) (by kernel_rfl) (by kernel_rfl) (fun _ _ _ h => h) (Or.inl ⟨by rfl, ?hy8⟩) (by with_reducible assumption) ?rest8
          case hy8 => (intro V_ hSw; (try dsimp only at hSw); go_simp; (try with_reducible rfl))
          case' rest8 => skip
          try simp only [Act.put, List.setIfInBounds_toArray, List.set_cons_zero, List.set_cons_succ]
          refine wpAnyH_take (i := 3) (oi := ⟨some 78, _, _, _, _, none⟩) (v := ?v9) rfl (by kernel_rfl) (by kernel_rfl) (by kernel_rfl) (fun _ _ _ h => h) (Or.inl ⟨by rfl, ?hy9⟩) (by with_reducible assumption) ?rest9
          case hy9 => (intro V_ hSw; (try dsimp only at hSw); go_simp; (try with_reducible rfl))
          case' rest9 => skip
          try simp only [Act.put, List.setIfInBounds_toArray, List.set_cons_zero, List.set_cons_succ]
          refine wpAnyH_take (i := 4) (oi := ⟨some 79, _, _, _, _, none⟩) (v := ?v10) rfl (by kernel_rfl) (by kernel_rfl) (by kernel_rfl) (fun _ _ _ h => h) (Or.inl ⟨by rfl, ?hy10⟩) (by with_reducible assumption) ?rest10
          case hy10 => (intro V_ hSw; (try dsimp only at hSw); go_simp; (try with_reducible rfl))
          case' rest10 => skip
          try simp only [Act.put, List.setIfInBounds_toArray, List.set_cons_zero, List.set_cons_succ]
          refine wpAnyH_take (i := 5) (oi := ⟨some 80, _, _, _, _, none⟩) (v := ?v11) rfl (by kernel_rfl) (by kernel_rfl) (by kernel_rfl) (fun _ _ _ h => h) (Or.inl ⟨by rfl, ?hy11⟩) (by with_reducible assumption) ?rest11
          case hy11 => (intro V_ hSw; (try dsimp only at hSw); go_simp; (try with_reducible rfl))
          case' rest11 => skip
          try simp only [Act.put, List.setIfInBounds_toArray, List.set_cons_zero, List.set_cons_succ]
          refine wpAnyH_take (i := 6) (oi := ⟨some 81, _, _, _, _, none⟩) (v := ?v12) rfl (by kernel_rfl) (by kernel_rfl) (by kernel_rfl) (fun _ _ _ h => h) (Or.inl ⟨by rfl, ?hy12⟩) (by with_reducible assumption) ?rest12
          case hy12 => (intro V_ hSw; (try dsimp only at hSw); go_simp; (try with_reducible rfl))
          case' rest12 => skip
          try simp only [Act.put, List.setIfInBounds_toArray, List.set_cons_zero, List.set_cons_succ]
          refine wpAnyH_take (i := 7) (oi := ⟨some 82, _, _, _, _, none⟩) (v := ?v13) rfl (by kernel_rfl) (by kernel_rfl) (by kernel_rfl) (fun _ _ _ h => h) (Or.inl ⟨by rfl, ?hy13⟩) (by with_reducible assumption) ?rest13
          case hy13 => (intro V_ hSw; (try dsimp only at hSw); go_simp; (try with_reducible rfl))
          case' rest13 => skip
          try simp only [Act.put, List.setIfInBounds_toArray, List.set_cons_zero, List.set_cons_succ]
          refine wpAnyH_take (i := 8) (oi := ⟨some 83, _, _, _, _, none⟩) (v := ?v14) rfl (by kernel_rfl) (by kernel_rfl) (by kernel_rfl) (fun _ _ _ h => h) (Or.inl ⟨by rfl, ?hy14⟩) (by with_reducible assumption) ?rest14
          case hy14 => (intro V_ hSw; (try dsimp only at hSw); go_simp; (try with_reducible rfl))
          case' rest14 => skip
          try simp only [Act.put, List.setIfInBounds_toArray, List.set_cons_zero, List.set_cons_succ]
          refine wpAnyH_take (i := 9) (oi := ⟨some 84, _, _, _, _, none⟩) (v := ?v15) rfl (by kernel_rfl) (by kernel_rfl) (by kernel_rfl) (fun _ _ _ h => h) (Or.inl ⟨by rfl, ?hy15⟩) (by with_reducible assumption) ?rest15
          case hy15 => (intro V_ hSw; (try dsimp only at hSw); go_simp; (try with_reducible rfl))
          case' rest15 => skip
          try simp only [Act.put, List.setIfInBounds_toArray, List.set_cons_zero, List.set_cons_succ]
          refine wpAnyH_take (i := 10) (oi := ⟨some 85, _, _, _, _, none⟩) (v := ?v16) rfl (by kernel_rfl) (by kernel_rfl) (by kernel_rfl) (fun _ _ _ h => h) (Or.inl ⟨by rfl, ?hy16⟩) (by with_reducible assumption) ?rest16
          case hy16 => (intro V_ hSw; (try dsimp only at hSw); go_simp; (try with_reducible rfl))
          case' rest16 => skip
          try simp only [Act.put, List.setIfInBounds_toArray, List.set_cons_zero, List.set_cons_succ]
          refine wpAnyH_take (i := 11) (oi := ⟨some 86, _, _, _, _, none⟩) (v := ?v17) rfl (by kernel_rfl) (by kernel_rfl) (by kernel_rfl) (fun _ _ _ h => h) (Or.inl ⟨by rfl, ?hy17⟩) (by with_reducible assumption) ?rest17
          case hy17 => (intro V_ hSw; (try dsimp only at hSw); go_simp; (try with_reducible rfl))
          case' rest17 => skip
          try simp only [Act.put, List.setIfInBounds_toArray, List.set_cons_zero, List.set_cons_succ]
          refine wpAnyH_take (i := 12) (oi := ⟨some 87, _, _, _, _, none⟩) (v := ?v18) rfl (by kernel_rfl) (by kernel_rfl) (by kernel_rfl) (fun _ _ _ h => h) (Or.inl ⟨by rfl, ?hy18⟩) (by with_reducible assumption) ?rest18
          case hy18 => (intro V_ hSw; (try dsimp only at hSw); go_simp; (try with_reducible rfl))
          case' rest18 => skip
          try simp only [Act.put, List.setIfInBounds_toArray, List.set_cons_zero, List.set_cons_succ]
          refine wpAnyH_take (i := 13) (oi := ⟨some 88, _, _, _, _, none⟩) (v := ?v19) rfl (by kernel_rfl) (by kernel_rfl) (by kernel_rfl) (fun _ _ _ h => h) (Or.inl ⟨by rfl, ?hy19⟩) (by with_reducible assumption) ?rest19
          case hy19 => (intro V_ hSw; (try dsimp only at hSw); go_simp; (try with_reducible rfl))
          case' rest19 => skip
          try simp only [Act.put, List.setIfInBounds_toArray, List.set_cons_zero, List.set_cons_succ]
          refine wpAnyH_take (i := 14) (oi := ⟨some 89, _, _, _, _, none⟩) (v := ?v20) rfl (by kernel_rfl) (by kernel_rfl) (by kernel_rfl) (fun _ _ _ h => h) (Or.inl ⟨by rfl, ?hy20⟩) (by with_reducible assumption) ?rest20
          case hy20 => (intro V_ hSw; (try dsimp only at hSw); go_simp; (try with_reducible rfl))
          case' rest20 => skip
          try simp only [Act.put, List.setIfInBounds_toArray, List.set_cons_zero, List.set_cons_succ]
          refine wpAnyH_take (i := 15) (oi := ⟨some 90, _, _, _, _, none⟩) (v := ?v21) rfl (by kernel_rfl) (by kernel_rfl) (by kernel_rfl) (fun _ _ _ h => h) (Or.inl ⟨by rfl, ?hy21⟩) (by with_reducible assumption) ?rest21
          case hy21 => (intro V_ hSw; (try dsimp only at hSw); go_simp; (try with_reducible rfl))
          case' rest21 => skip
          try simp only [Act.put, List.setIfInBounds_toArray, List.set_cons_zero, List.set_cons_succ]
          refine wpAnyH_take (i := 16) (oi := ⟨some 91, _, _, _, _, none⟩) (v := ?v22) rfl (by kernel_rfl) (by kernel_rfl) (by kernel_rfl) (fun _ _ _ h => h) (Or.inl ⟨by rfl, ?hy22⟩) (by with_reducible assumption) ?rest22
          case hy22 => (intro V_ hSw; (try dsimp only at hSw); go_simp; (try with_reducible rfl))
          case' rest22 => skip
          try simp only [Act.put, List.setIfInBounds_toArray, List.set_cons_zero, List.set_cons_succ]
          refine wpAnyH_take (i := 17) (oi := ⟨some 92, _, _, _, _, none⟩) (v := ?v23) rfl (by kernel_rfl) (by kernel_rfl) (by kernel_rfl) (fun _ _ _ h => h) (Or.inl ⟨by rfl, ?hy23⟩) (by with_reducible assumption) ?rest23
          case hy23 => (intro V_ hSw; (try dsimp only at hSw); go_simp; (try with_reducible rfl))
          case' rest23 => skip
          try simp only [Act.put, List.setIfInBounds_toArray, List.set_cons_zero, List.set_cons_succ]
          refine wpAnyH_take (i := 18) (oi := ⟨some 93, _, _, _, _, none⟩) (v := ?v24) rfl (by kernel_rfl) (by kernel_rfl) (by kernel_rfl) (fun _ _ _ h => h) (Or.inl ⟨by rfl, ?hy24⟩) (by with_reducible assumption) ?rest24
          case hy24 => (intro V_ hSw; (try dsimp only at hSw); go_simp; (try with_reducible rfl))
          case' rest24 => skip
          try simp only [Act.put, List.setIfInBounds_toArray, List.set_cons_zero, List.set_cons_succ]
          refine wpAnyH_take (i := 19) (oi := ⟨some 94, _, _, _, _, none⟩) (v := ?v25) rfl (by kernel_rfl) (by kernel_rfl) (by kernel_rfl) (fun _ _ _ h => h) (Or.inl ⟨by rfl, ?hy25⟩) (by with_reducible assumption) ?rest25
          case hy25 => (intro V_ hSw; (try dsimp only at hSw); go_simp; (try with_reducible rfl))
          case' rest25 => skip
          try simp only [Act.put, List.setIfInBounds_toArray, List.set_cons_zero, List.set_cons_succ]
          refine wpAnyH_take (i := 20) (oi := ⟨some 95, _, _, _, _, none⟩) (v := ?v26) rfl (by kernel_rfl) (by kernel_rfl) (by kernel_rfl) (fun _ _ _ h => h) (Or.inl ⟨by rfl, ?hy26⟩) (by with_reducible assumption) ?rest26
          case hy26 => (intro V_ hSw; (try dsimp only at hSw); go_simp; (try with_reducible rfl))
          case' rest26 => skip
          try simp only [Act.put, List.setIfInBounds_toArray, List.set_cons_zero, List.set_cons_succ]
          refine wpAnyH_take (i := 21) (oi := ⟨some 96, _, _, _, _, none⟩) (v := ?v27) rfl (by kernel_rfl) (by kernel_rfl) (by kernel_rfl) (fun _ _ _ h => h) (Or.inl ⟨by rfl, ?hy27⟩) (by with_reducible assumption) ?rest27
          case hy27 => (intro V_ hSw; (try dsimp only at hSw); go_simp; (try with_reducible rfl))
          case' rest27 => skip
          try simp only [Act.put, List.setIfInBounds_toArray, List.set_cons_zero, List.set_cons_succ]
          refine wpAnyH_take (i := 22) (oi := ⟨some 97, _, _, _, _, none⟩) (v := ?v28) rfl (by kernel_rfl) (by kernel_rfl) (by kernel_rfl) (fun _ _ _ h => h) (Or.inl ⟨by rfl, ?hy28⟩) (by with_reducible assumption) ?rest28
          case hy28 => (intro V_ hSw; (try dsimp only at hSw); go_simp; (try with_reducible rfl))
          case' rest28 => skip
          try simp only [Act.put, List.setIfInBounds_toArray, List.set_cons_zero, List.set_cons_succ]
          refine wpAnyH_take (i := 23) (oi := ⟨some 98, _, _, _, _, none⟩) (v := ?v29) rfl (by kernel_rfl) (by kernel_rfl) (by kernel_rfl) (fun _ _ _ h => h) (Or.inl ⟨by rfl, ?hy29⟩) (by with_reducible assumption) ?rest29
          case hy29 => (intro V_ hSw; (try dsimp only at hSw); go_simp; (try with_reducible rfl))
          case' rest29 => skip
          try simp only [Act.put, List.setIfInBounds_toArray, List.set_cons_zero, List.set_cons_succ]
          refine wpAnyH_take (i := 24) (oi := ⟨some 99, _, _, _, _, none⟩) (v := ?v30) rfl (by kernel_rfl) (by kernel_rfl) (by kernel_rfl) (fun _ _ _ h => h) (Or.inl ⟨by rfl, ?hy30⟩) (by with_reducible assumption) ?rest30
          case hy30 => (intro V_ hSw; (try dsimp only at hSw); go_simp; (try with_reducible rfl))
          case' rest30 => skip
          try simp only [Act.put, List.setIfInBounds_toArray, List.set_cons_zero, List.set_cons_succ]
          refine wpAnyH_take (i := 25) (oi := ⟨some 100, _, _, _, _, none⟩) (v := ?v31) rfl (by kernel_rfl) (by kernel_rfl) (by kernel_rfl) (fun _ _ _ h => h) (Or.inl ⟨by rfl, ?hy31⟩) (by with_reducible assumption) ?rest31
          case hy31 => (intro V_ hSw; (try dsimp only at hSw); go_simp; (try with_reducible rfl))
          case' rest31 => skip
          try simp only [Act.put, List.setIfInBounds_toArray, List.set_cons_zero, List.set_cons_succ]
          refine wpAnyH_take (i := 26) (oi := ⟨some 101, _, _, _, _, none⟩) (v := ?v32) rfl (by kernel_rfl) (by kernel_rfl) (by kernel_rfl) (fun _ _ _ h => h) (Or.inl ⟨by rfl, ?hy32⟩) (by with_reducible assumption) ?rest32
          case hy32 => (intro V_ hSw; (try dsimp only at hSw); go_simp; (try with_reducible rfl))
          case' rest32 => skip
          try simp only [Act.put, List.setIfInBounds_toArray, List.set_cons_zero, List.set_cons_succ]
          refine wpAnyH_take (i := 27) (oi := ⟨some 102, _, _, _, _, none⟩) (v := ?v33) rfl (by kernel_rfl) (by kernel_rfl) (by kernel_rfl) (fun _ _ _ h => h) (Or.inl ⟨by rfl, ?hy33⟩) (by with_reducible assumption) ?rest33
          case hy33 => (intro V_ hSw; (try dsimp only at hSw); go_simp; (try with_reducible rfl))
          case' rest33 => skip
          try simp only [Act.put, List.setIfInBounds_toArray, List.set_cons_zero, List.set_cons_succ]
          refine wpAnyH_take (i := 28) (oi := ⟨some 103, _, _, _, _, none⟩) (v := ?v34) rfl (by kernel_rfl) (by kernel_rfl) (by kernel_rfl) (fun _ _ _ h => h) (Or.inl ⟨by rfl, ?hy34⟩) (by with_reducible assumption) ?rest34
          case hy34 => (intro V_ hSw; (try dsimp only at hSw); go_simp; (try with_reducible rfl))
          case' rest34 => skip
          try simp only [Act.put, List.setIfInBounds_toArray, List.set_cons_zero, List.set_cons_succ]
          refine wpAnyH_ready (rs := [29]) (by kernel_rfl) (by simp) ?_
          refine AllReadyH.cons (o := ⟨some 104, _, _, _, _, none⟩) rfl (fun K hK => ?_) ?_
          · refine Kd.R_lit_step k45 (w0 := wd) wd.heap.size 45 ?hg (N := 104) ?hd (xs := ([⟨2, 0, ⟨0, 0⟩⟩, ⟨3, 0, ⟨x, 1048575⟩⟩, ⟨2, 0, ⟨0, 0⟩⟩, ⟨0, x, ⟨0, 0⟩⟩, ⟨1, x, ⟨0, 0⟩⟩, ⟨2, 0, ⟨0, 0⟩⟩, ⟨3, 0, ⟨x, 0⟩⟩, ⟨3, 0, ⟨0, -1⟩⟩, ⟨2, 0, ⟨0, 0⟩⟩] : List S45)) (inner := [.int .i64 2, .int .i64 0, .int .i64 0, .int .i64 0, .int .i64 3, .int .i64 0, .int .i64 x, .int .i64 1048575, .int .i64 2, .int .i64 0, .int .i64 0, .int .i64 0, .int .i64 0, .int .i64 x, .int .i64 0, .int .i64 0, .int .i64 1, .int .i64 x, .int .i64 0, .int .i64 0, .int .i64 2, .int .i64 0, .int .i64 0, .int .i64 0, .int .i64 3, .int .i64 0, .int .i64 x, .int .i64 0, .int .i64 3, .int .i64 0, .int .i64 0, .int .i64 (-1), .int .i64 2, .int .i64 0, .int .i64 0, .int .i64 0]) (ok := fun _ => True) (okp := fun _ => True) ?hr ?hp (fun _ hk => hk) trivial (Below.refl _ _) (Nat.le_refl _) (by simp) ?_
            case hg => rfl
            case hd => rfl
            case hr => first | (go_simp; done) | (go_simp; rfl)
            case hp => exact (Reps.c4 (k45_mkM _ _ _ (⟨2, 0, ⟨0, 0⟩⟩ : S45)) (Reps.c4 (k45_mkM _ _ _ (⟨3, 0, ⟨x, 1048575⟩⟩ : S45)) (Reps.c4 (k45_mkM _ _ _ (⟨2, 0, ⟨0, 0⟩⟩ : S45)) (Reps.c4 (k45_mkM _ _ _ (⟨0, x, ⟨0, 0⟩⟩ : S45)) (Reps.c4 (k45_mkM _ _ _ (⟨1, x, ⟨0, 0⟩⟩ : S45)) (Reps.c4 (k45_mkM _ _ _ (⟨2, 0, ⟨0, 0⟩⟩ : S45)) (Reps.c4 (k45_mkM _ _ _ (⟨3, 0, ⟨x, 0⟩⟩ : S45)) (Reps.c4 (k45_mkM _ _ _ (⟨3, 0, ⟨0, -1⟩⟩ : S45)) (Reps.c4 (k45_mkM _ _ _ (⟨2, 0, ⟨0, 0⟩⟩ : S45)) (Reps.none _ _))))))))))
            intro vy w3 hoy hby hgy hny
            have HB3 := Aside0.mk (below_step HBd.out hby)
            have HR3 := Aside0.mk (Kd.R_below HRd.out hby)
            obtain ⟨Ay, cy, ey⟩ := Kd.R_slice hoy
            subst ey
            have hCy := (Kd.R_reads' hoy).2.2
            clear hoy hby hgy hny
            refine hK.out _ _ (HX.out _ HB3.out) (fun hHeld => ?_)
            clear hK K
            try simp only [Act.put, List.setIfInBounds_toArray, List.set_cons_zero, List.set_cons_succ]
            refine wpAnyH_ready (rs := [30]) (by kernel_rfl) (by simp) ?_
            refine AllReadyH.cons (o := ⟨some 105, _, _, _, _, none⟩) rfl (fun K hK => ?_) ?_
            · refine Kd.R_append_rows_step k45 (Rr := k45.K w3) (w0 := w2) w2.heap.size rfl (.tmp 75) (.tmp 104) 39 45 _ 32 rfl Try.underlying39 info45_ rfl (show 0 < 4 by omega) (by omega) (.slice A xs.length c) xs ([⟨2, 0, ⟨0, 0⟩⟩, ⟨3, 0, ⟨x, 1048575⟩⟩, ⟨2, 0, ⟨0, 0⟩⟩, ⟨0, x, ⟨0, 0⟩⟩, ⟨1, x, ⟨0, 0⟩⟩, ⟨2, 0, ⟨0, 0⟩⟩, ⟨3, 0, ⟨x, 0⟩⟩, ⟨3, 0, ⟨0, -1⟩⟩, ⟨2, 0, ⟨0, 0⟩⟩] : List S45) Ay 9 cy (fun _ => True) (fun _ => False) rfl rfl ?aO ?aR (fun x cs h => by rw [k45_open h]; exact k45_mkM _ _ _ x) (fun _ h => h.elim) (fun _ _ => trivial) ?aB ?aS ?aL ?_
              case aR => exact hCy
              case aB => exact HB3.out
              case aO => exact HR3.out
              case aS => exact below_size HB3.out
              case aL => have h2 := HL6.out; have h3 := HI6.out; omega
              intro v4 w4 ho4 hb4 hg4 hat4
              obtain ⟨A4, c4, e4⟩ := Kd.R_slice ho4
              subst e4
              have HR4 := Aside0.mk ho4
              have HB4 := Aside0.mk hb4
              clear ho4 hb4 hg4 hat4 hCy
              refine hK.out _ _ (HX.out _ HB4.out) (fun hHeld => ?_)
              clear hK K
              try simp only [Act.put, List.setIfInBounds_toArray, List.set_cons_zero, List.set_cons_succ]
              refine wpAnyH_take (i := 31) (oi := ⟨some 7, _, _, _, _, none⟩) (v := ?v35) rfl (by kernel_rfl) (by kernel_rfl) (by kernel_rfl) (fun _ _ _ h => h) (Or.inl ⟨by rfl, ?hy35⟩) (by with_reducible assumption) ?rest35
              case hy35 => (intro V_ hSw; (try dsimp only at hSw); go_simp; (try with_reducible rfl))
              case' rest35 => skip
              try simp only [Act.put, List.setIfInBounds_toArray, List.set_cons_zero, List.set_cons_succ]
              refine wpAnyH_done (by kernel_rfl) ?_ _
              refine NoPanic.normal ?_
              go_wp2_with fail
              go_roundg (6 - i)
              case measure => have h1 := HI.out; have h2 := HH2.out; omega
              case rel => exact ⟨i + 1, A4, c4, xs ++ ([⟨2, 0, ⟨0, 0⟩⟩, ⟨3, 0, ⟨x, 1048575⟩⟩, ⟨2, 0, ⟨0, 0⟩⟩, ⟨0, x, ⟨0, 0⟩⟩, ⟨1, x, ⟨0, 0⟩⟩, ⟨2, 0, ⟨0, 0⟩⟩, ⟨3, 0, ⟨x, 0⟩⟩, ⟨3, 0, ⟨0, -1⟩⟩, ⟨2, 0, ⟨0, 0⟩⟩] : List S45), (by rw [List.length_append]; rfl), congrArg (Value.int .i64) (by first | exact HWI.out | exact HWI2.out | rfl | omega), ⟨by have h1 := HI.out; have h2 := HH2.out; omega⟩, ⟨by have h2 := HL6.out; rw [List.length_append, h2]; simp only [List.length_cons, List.length_nil]; omega⟩, ⟨by have h2 := HH2.out; omega⟩, HR4, HB4⟩
            exact AllReadyH.nil
          exact AllReadyH.nil
        case neg =>
          have d1 : decide ((i : Int) < 6) = false := decide_eq_false (by omega)
          clear HI HL6 HI6 h1
          go_wp2_with fail
          go_loopg [9] 7 (fun kq v w' => ∃ (i : Nat), v = .int .i64 (i : Int) ∧ Aside0 (i + kq = 7) ∧ Aside0 (Below w2.heap.size w2 w') ∧ Aside0 (Kd.R k45 45 w' w2.heap.size (fun _ => True) (.slice A xs.length c) xs))
          case atStart => exact ⟨0, rfl, ⟨rfl⟩, HB2, HR⟩
          case round =>
            clear HB2 HR d1
            obtain ⟨i, rfl, HI, HB2, HR⟩ := hrel
            by_cases h1 : i < 6
            case pos =>
              have d1 : decide ((i : Int) < 6) = true := decide_eq_true (by omega)
              obtain ⟨x, hx⟩ := HAT.out i h1
              have HX := Aside0.mk hx
              have HH2 := Aside0.mk h1
              have hwi : Go.RowKit.wrap64 ((i : Int) + 1) = ((i + 1 : Nat) : Int) := by
                unfold Go.RowKit.wrap64
                omega
              have HWI := Aside0.mk hwi
              have HWI2 := Aside0.mk ((i64_w ((i : Int) + 1)).trans hwi)
              clear hwi
              have p_i := eq_true (show (0 : Int) ≤ (i : Int) by omega)
              have q_i := eq_true (show (i : Int) < 6 by omega)
              clear hx h1
              go_wp2_with fail
              go_loopg [10] 7 (fun kq v w' => ∃ (j : Nat), v = .int .i64 (j : Int) ∧ Aside0 (j + kq = 7) ∧ Aside0 (Below w2.heap.size w2 w') ∧ Aside0 (Kd.R k45 45 w' w2.heap.size (fun _ => True) (.slice A xs.length c) xs))
              case atStart => exact ⟨0, rfl, ⟨rfl⟩, HB2, HR⟩
              case round =>
                clear HB2 HR
                obtain ⟨j, rfl, HJ, HB5, HR5⟩ := hrel
                by_cases h1 : j < 6
                case pos =>
                  have d2 : decide ((j : Int) < 6) = true := decide_eq_true (by omega)
                  obtain ⟨y, hy⟩ := HAT.out j h1
                  have HY := Aside0.mk hy
                  have HH3 := Aside0.mk h1
                  clear HWI HWI2
                  have hwi : Go.RowKit.wrap64 ((j : Int) + 1) = ((j + 1 : Nat) : Int) := by
                    unfold Go.RowKit.wrap64
                    omega
                  have HWI := Aside0.mk hwi
                  have HWI2 := Aside0.mk ((i64_w ((j : Int) + 1)).trans hwi)
                  clear hwi
                  have p_j := eq_true (show (0 : Int) ≤ (j : Int) by omega)
                  have q_j := eq_true (show (j : Int) < 6 by omega)
                  clear hy h1
                  go_upto_region 22 with fail
                  refine wp_region_noPanic ?_
                  refine wp_region_held_drew (S := (fun V => V.cell? (ad.add i) = some (.int .i64 x) ∧ V.cell? (ad.add j) = some (.int .i64 y))) (by kernel_rfl) ⟨HX.out _ (below_step HB5.out (below_drew1 (Below.refl _ _))), HY.out _ (below_step HB5.out (below_drew1 (Below.refl _ _)))⟩ (fun hHeld => ?_)
                  generalize hwd : World.drew _ = wd at hHeld ⊢
                  have HBd := Aside0.mk (show Below w2.heap.size w2 wd from by rw [← hwd]; exact below_step HB5.out (below_drew1 (Below.refl _ _)))
                  have HRd := Aside0.mk (show Kd.R k45 45 wd w2.heap.size (fun _ => True) (.slice A xs.length c) xs from by rw [← hwd]; exact Kd.R_drew HR5.out)
                  clear hwd
                  refine wpAnyH_take (i := 0) (oi := ⟨some 118, _, _, _, _, none⟩) (v := ?v36) rfl (by kernel_rfl) (by kernel_rfl) (by kernel_rfl) (fun _ _ _ h => h) (Or.inl ⟨by rfl, ?hy36⟩) (by with_reducible assumption) ?rest36
                  case hy36 => (intro V_ hSw; (try dsimp only at hSw); go_simp; (try with_reducible rfl))
                  case' rest36 => skip
                  try simp only [Act.put, List.setIfInBounds_toArray, List.set_cons_zero, List.set_cons_succ]
                  refine wpAnyH_take (i := 1) (oi := ⟨some 119, _, _, _, _, none⟩) (v := ?v37) rfl (by kernel_rfl) (by kernel_rfl) (by kernel_rfl) (fun _ _ _ h => h) (Or.inl ⟨by rfl, ?hy37⟩) (by with_reducible assumption) ?rest37
                  case hy37 => (intro V_ hSw; (try dsimp only at hSw); go_simp; (try with_reducible rfl))
                  case' rest37 => skip
                  try simp only [Act.put, List.setIfInBounds_toArray, List.set_cons_zero, List.set_cons_succ]
                  refine wpAnyH_take (i := 2) (oi := ⟨some 120, _, _, _, _, none⟩) (v := ?v38) rfl (by kernel_rfl) (by kernel_rfl) (by kernel_rfl) (fun _ _ _ h => h) (Or.inl ⟨by rfl, ?hy38⟩) (by with_reducible assumption) ?rest38
                  case hy38 => (intro V_ hSw; (try dsimp only at hSw); go_simp; (try with_reducible rfl))
                  case' rest38 => skip
                  try simp only [Act.put, List.setIfInBounds_toArray, List.set_cons_zero, List.set_cons_succ]
                  refine wpAnyH_take (i := 3) (oi := ⟨some 121, _, _, _, _, none⟩) (v := ?v39) rfl (by kernel_rfl) (by kernel_rfl) (by kernel_rfl) (fun _ _ _ h => h) (Or.inl ⟨by rfl, ?hy39⟩) (by with_reducible assumption) ?rest39
                  case hy39 => (intro V_ hSw; (try dsimp only at hSw); go_simp; (try with_reducible rfl))
                  case' rest39 => skip
                  try simp only [Act.put, List.setIfInBounds_toArray, List.set_cons_zero, List.set_cons_succ]
                  refine wpAnyH_take (i := 4) (oi := ⟨some 122, _, _, _, _, none⟩) (v := ?v40) rfl (by kernel_rfl) (by kernel_rfl) (by kernel_rfl) (fun _ _ _ h => h) (Or.inl ⟨by rfl, ?hy40⟩) (by with_reducible assumption) ?rest40
                  case hy40 => (intro V_ hSw; (try dsimp only at hSw); go_simp; (try with_reducible rfl))
                  case' rest40 => skip
                  try simp only [Act.put, List.setIfInBounds_toArray, List.set_cons_zero, List.set_cons_succ]
                  refine wpAnyH_take (i := 5) (oi := ⟨some 123, _, _, _, _, none⟩) (v := ?v41) rfl (by kernel_rfl) (by kernel_rfl) (by kernel_rfl) (fun _ _ _ h => h) (Or.inl ⟨by rfl, ?hy41⟩) (by with_reducible assumption) ?rest41
                  case hy41 => (intro V_ hSw; (try dsimp only at hSw); go_simp; (try with_reducible rfl))
                  case' rest41 => skip
                  try simp only [Act.put, List.setIfInBounds_toArray, List.set_cons_zero, List.set_cons_succ]
                  refine wpAnyH_take (i := 6) (oi := ⟨some 124, _, _, _, _, none⟩) (v := ?v42) rfl (by kernel_rfl) (by kernel_rfl) (by kernel_rfl) (fun _ _ _ h => h) (Or.inl ⟨by rfl, ?hy42⟩) (by with_reducible assumption) ?rest42
                  case hy42 => (intro V_ hSw; (try dsimp only at hSw); go_simp; (try with_reducible rfl))
                  case' rest42 => skip
                  try simp only [Act.put, List.setIfInBounds_toArray, List.set_cons_zero, List.set_cons_succ]
                  refine wpAnyH_take (i := 7) (oi := ⟨some 125, _, _, _, _, none⟩) (v := ?v43) rfl (by kernel_rfl) (by kernel_rfl) (by kernel_rfl) (fun _ _ _ h => h) (Or.inl ⟨by rfl, ?hy43⟩) (by with_reducible assumption) ?rest43
                  case hy43 => (intro V_ hSw; (try dsimp only at hSw); go_simp; (try with_reducible rfl))
                  case' rest43 => skip
                  try simp only [Act.put, List.setIfInBounds_toArray, List.set_cons_zero, List.set_cons_succ]
                  refine wpAnyH_take (i := 8) (oi := ⟨some 126, _, _, _, _, none⟩) (v := ?v44) rfl (by kernel_rfl) (by kernel_rfl) (by kernel_rfl) (fun _ _ _ h => h) (Or.inl ⟨by rfl, ?hy44⟩) (by with_reducible assumption) ?rest44
                  case hy44 => (intro V_ hSw; (try dsimp only at hSw); go_simp; (try with_reducible rfl))
                  case' rest44 => skip
                  try simp only [Act.put, List.setIfInBounds_toArray, List.set_cons_zero, List.set_cons_succ]
                  refine wpAnyH_ready (rs := [9]) (by kernel_rfl) (by simp) ?_
                  refine AllReadyH.cons (o := ⟨some 127, _, _, _, _, none⟩) rfl (fun K hK => ?_) ?_
                  · go_simp
                    have hq := Kd.R_reads' HRd.out
                    refine (scriptoriumlaw06_ClockPlays.calls k x y A c xs true _ hq.2.2 hq.2.1 HA.out rfl).mono ?_
                    rintro e w6 ⟨rfl, hb⟩
                    have HB6 := Aside0.mk (below_step HBd.out hb)
                    have HR6 := Aside0.mk (Kd.R_below HRd.out hb)
                    clear hb hq
                    refine hK.out _ _ ⟨HX.out _ HB6.out, HY.out _ HB6.out⟩ (fun hHeld => ?_)
                    clear hK K
                    try simp only [Act.put, List.setIfInBounds_toArray, List.set_cons_zero, List.set_cons_succ]
                    refine wpAnyH_take (i := 10) (oi := ⟨some 128, _, _, _, _, none⟩) (v := ?v45) rfl (by kernel_rfl) (by kernel_rfl) (by kernel_rfl) (fun _ _ _ h => h) (Or.inl ⟨by rfl, ?hy45⟩) (by with_reducible assumption) ?rest45
                    case hy45 => (intro V_ hSw; (try dsimp only at hSw); go_simp; (try with_reducible rfl))
                    case' rest45 => skip
                    try simp only [Act.put, List.setIfInBounds_toArray, List.set_cons_zero, List.set_cons_succ]
                    refine wpAnyH_done (by kernel_rfl) ?_ _
                    refine NoPanic.normal ?_
                    go_wp2_with fail
                    go_roundg (6 - j)
                    case measure => have h1 := HJ.out; have h2 := HH3.out; omega
                    case rel => exact ⟨j + 1, congrArg (Value.int .i64) (by first | exact HWI.out | exact HWI2.out | rfl | omega), ⟨by have h1 := HJ.out; have h2 := HH3.out; omega⟩, HB6, HR6⟩
                  exact AllReadyH.nil
                case neg =>
                  have d2 : decide ((j : Int) < 6) = false := decide_eq_false (by omega)
                  go_wp2_with fail
                  go_roundg (6 - i)
                  case measure => have h1 := HI.out; have h2 := HH2.out; omega
                  case rel => exact ⟨i + 1, congrArg (Value.int .i64) (by first | exact HWI.out | exact HWI2.out | rfl | omega), ⟨by have h1 := HI.out; have h2 := HH2.out; omega⟩, HB5, HR5⟩
            case neg =>
              have d1 : decide ((i : Int) < 6) = false := decide_eq_false (by omega)
              go_wp2_with fail
              refine (scriptoriumlaw06_awake.calls k true _ HA.out).mono ?_
              rintro e w7 ⟨rfl, hb⟩
              go_wp2_with fail
              go_ret
              exact ⟨rfl, below_step HBW.out (below_step HB2.out hb)⟩
def scriptoriumlaw06_ClockNames.Pure : Prop := ∃ k, scriptoriumlaw06_awake.f k = some true
theorem scriptoriumlaw06_ClockNames.walk (P : scriptoriumlaw06_ClockNames.Pure) (w : World) : Calls Try.prog 6 #[] w fun e w' => e = .returned (.bool true) ∧ Below w.heap.size w w' := scriptoriumlaw06_ClockNames.calls w P

end Go.Proofs.Ythhgoiabkgfdfaa.PClockRises
