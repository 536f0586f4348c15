/- The document's tide (typed by hand): Add. -/
import Derived.Test.YtaccfbpfennjkaaRt2
namespace Go.Proofs.Ytaccfbpfennjkaa.PTideDoes
open Go.RowKit Go.Proofs.YtaccfbpfennjkaaW.PrintWords Go.Proofs.YtaccfbpfennjkaaW.PrintLast Go.Proofs.YtaccfbpfennjkaaW.PrintMore
attribute [local go_sem] max2_int min2_int max_two min_two max_three min_three max_four min_four   -- for this text's walks alone
set_option linter.unusedVariables false
set_option linter.unusedSimpArgs false
set_option maxHeartbeats 16000000 in
set_option maxRecDepth 100000 in
theorem rt_add_bad1 (W0 W : World) (g : Nat) (t : Td S24) (A : Option Addr) (c : Nat) (s : S24) (a : Int × Int) (o : Int) (h : RtA W0 W g t A c) (hs : spErr s ≠ 0) : Calls Try.prog 21 #[.pointer (some ⟨g, 0, none⟩), .agg #[.string s.f0, .string s.f1], .agg #[.int .i64 a.1, .int .i64 a.2], .int .i64 o] W (RtPost W0 W g t (.returned (.int .i64 (spErr s)))) := by
  have HT0 := Aside0.mk h
  have e1 : (spErr s != 0) = true := bne_iff_ne.mpr hs
  have e2 : (spErr s == 0) = false := beq_eq_false_iff_ne.mpr hs
  clear h hs
  go_enter Try.func21, Try.ntmps21
  go_upto_region 1 with fail
  generalize hw1 : World.alloc (World.alloc W _) _ = w1
  have hb : Below W.heap.size W w1 := by rw [← hw1]; exact below_alloc (td_alloc W _) _
  have e1_ : (W.alloc (.cells #[.string s.f0, .string s.f1] 24)).heap.size = W.heap.size + 1 := Array.size_push _
  have HX := Aside0.mk (show w1.heap[W.heap.size]? = some (.cells #[.string s.f0, .string s.f1] 24 (0, 0)) from by rw [← hw1]; exact td_kept (blk_new W _) (td_alloc _ _))
  have HA := Aside0.mk (show w1.heap[W.heap.size + 1]? = some (.cells #[.int .i64 a.1, .int .i64 a.2] 31 (0, 0)) from by
    have q := blk_new (W.alloc (.cells #[.string s.f0, .string s.f1] 24)) (.cells #[.int .i64 a.1, .int .i64 a.2] 31)
    rw [e1_, hw1] at q
    exact q)
  have HNG := Aside0.mk (And.intro (Nat.ne_of_gt HT0.out.lt) (show W.heap.size + 1 ≠ g from by have := HT0.out.lt; omega))
  have HT := Aside0.mk (HT0.out.step hb)
  have HN := Aside0.mk (Tn.of_below (B := W0.heap.size) (g := some g) (ty := 67) hb)
  have HB := Aside0.mk hb
  clear hw1 hb e1_
  generalize W.heap.size = n at HX HA HNG ⊢
  have x0 : w1.cell? ⟨n, 0, none⟩ = some (.string s.f0) := (blk_cell HX.out 0).trans rfl
  have x1 : w1.cell? ⟨n, 1, none⟩ = some (.string s.f1) := (blk_cell HX.out 1).trans rfl
  go_wp2_with fail
  refine (rl_sp s _).mono ?_
  rintro e w3 ⟨rfl, hb⟩
  clear x0 x1
  have HX_ := Aside0.mk (td_kept HX.out hb)
  clear HX
  have HX := Aside0.mk HX_.out
  clear HX_
  have HA_ := Aside0.mk (td_kept HA.out hb)
  clear HA
  have HA := Aside0.mk HA_.out
  clear HA_
  have HT_ := Aside0.mk (HT.out.step hb)
  clear HT
  have HT := Aside0.mk HT_.out
  clear HT_
  have HN_ := Aside0.mk (HN.out.trans (Tn.of_below hb))
  clear HN
  have HN := Aside0.mk HN_.out
  clear HN_
  have HB_ := Aside0.mk (below_step HB.out hb)
  clear HB
  have HB := Aside0.mk HB_.out
  clear HB_
  clear hb
  go_wp2_with fail
  go_ret
  exact ⟨rfl, ⟨_, _, HT.out⟩, HN.out⟩
set_option maxHeartbeats 16000000 in
set_option maxRecDepth 100000 in
theorem rt_add_bad2 (W0 W : World) (g : Nat) (t : Td S24) (A : Option Addr) (c : Nat) (s : S24) (a : Int × Int) (o : Int) (h : RtA W0 W g t A c) (hs : spErr s = 0) (hk : sok a = false) : Calls Try.prog 21 #[.pointer (some ⟨g, 0, none⟩), .agg #[.string s.f0, .string s.f1], .agg #[.int .i64 a.1, .int .i64 a.2], .int .i64 o] W (RtPost W0 W g t (.returned (.int .i64 2))) := by
  have HT0 := Aside0.mk h
  have HS := Aside0.mk hs
  have HK := Aside0.mk hk
  clear h hs hk
  go_enter Try.func21, Try.ntmps21
  go_upto_region 1 with fail
  generalize hw1 : World.alloc (World.alloc W _) _ = w1
  have hb : Below W.heap.size W w1 := by rw [← hw1]; exact below_alloc (td_alloc W _) _
  have e1_ : (W.alloc (.cells #[.string s.f0, .string s.f1] 24)).heap.size = W.heap.size + 1 := Array.size_push _
  have HX := Aside0.mk (show w1.heap[W.heap.size]? = some (.cells #[.string s.f0, .string s.f1] 24 (0, 0)) from by rw [← hw1]; exact td_kept (blk_new W _) (td_alloc _ _))
  have HA := Aside0.mk (show w1.heap[W.heap.size + 1]? = some (.cells #[.int .i64 a.1, .int .i64 a.2] 31 (0, 0)) from by
    have q := blk_new (W.alloc (.cells #[.string s.f0, .string s.f1] 24)) (.cells #[.int .i64 a.1, .int .i64 a.2] 31)
    rw [e1_, hw1] at q
    exact q)
  have HNG := Aside0.mk (And.intro (Nat.ne_of_gt HT0.out.lt) (show W.heap.size + 1 ≠ g from by have := HT0.out.lt; omega))
  have HT := Aside0.mk (HT0.out.step hb)
  have HN := Aside0.mk (Tn.of_below (B := W0.heap.size) (g := some g) (ty := 67) hb)
  have HB := Aside0.mk hb
  clear hw1 hb e1_
  generalize W.heap.size = n at HX HA HNG ⊢
  have x0 : w1.cell? ⟨n, 0, none⟩ = some (.string s.f0) := (blk_cell HX.out 0).trans rfl
  have x1 : w1.cell? ⟨n, 1, none⟩ = some (.string s.f1) := (blk_cell HX.out 1).trans rfl
  go_wp2_with fail
  refine (rl_sp s _).mono ?_
  rintro e w3 ⟨rfl, hb⟩
  clear x0 x1
  have HX_ := Aside0.mk (td_kept HX.out hb)
  clear HX
  have HX := Aside0.mk HX_.out
  clear HX_
  have HA_ := Aside0.mk (td_kept HA.out hb)
  clear HA
  have HA := Aside0.mk HA_.out
  clear HA_
  have HT_ := Aside0.mk (HT.out.step hb)
  clear HT
  have HT := Aside0.mk HT_.out
  clear HT_
  have HN_ := Aside0.mk (HN.out.trans (Tn.of_below hb))
  clear HN
  have HN := Aside0.mk HN_.out
  clear HN_
  have HB_ := Aside0.mk (below_step HB.out hb)
  clear HB
  have HB := Aside0.mk HB_.out
  clear HB_
  clear hb
  rw [HS.out]
  have a0 : w3.cell? ⟨n + 1, 0, none⟩ = some (.int .i64 a.1) := (blk_cell HA.out 0).trans rfl
  have a1 : w3.cell? ⟨n + 1, 1, none⟩ = some (.int .i64 a.2) := (blk_cell HA.out 1).trans rfl
  go_wp2_with fail
  refine (rl_chk a _).mono ?_
  rintro e w4 ⟨rfl, hb⟩
  clear a0 a1
  have HX_ := Aside0.mk (td_kept HX.out hb)
  clear HX
  have HX := Aside0.mk HX_.out
  clear HX_
  have HA_ := Aside0.mk (td_kept HA.out hb)
  clear HA
  have HA := Aside0.mk HA_.out
  clear HA_
  have HT_ := Aside0.mk (HT.out.step hb)
  clear HT
  have HT := Aside0.mk HT_.out
  clear HT_
  have HN_ := Aside0.mk (HN.out.trans (Tn.of_below hb))
  clear HN
  have HN := Aside0.mk HN_.out
  clear HN_
  have HB_ := Aside0.mk (below_step HB.out hb)
  clear HB
  have HB := Aside0.mk HB_.out
  clear HB_
  clear hb
  rw [HK.out]
  go_wp2_with fail
  go_ret
  exact ⟨rfl, ⟨_, _, HT.out⟩, HN.out⟩
set_option maxHeartbeats 16000000 in
set_option maxRecDepth 100000 in
theorem rt_add_bad3 (W0 W : World) (g : Nat) (t : Td S24) (A : Option Addr) (c : Nat) (s : S24) (a : Int × Int) (o : Int) (h : RtA W0 W g t A c) (hs : spErr s = 0) (hk : sok a = true) (ho : own o = false) : Calls Try.prog 21 #[.pointer (some ⟨g, 0, none⟩), .agg #[.string s.f0, .string s.f1], .agg #[.int .i64 a.1, .int .i64 a.2], .int .i64 o] W (RtPost W0 W g t (.returned (.int .i64 2))) := by
  have HT0 := Aside0.mk h
  have HS := Aside0.mk hs
  have HK := Aside0.mk hk
  have HW := Aside0.mk ho
  clear h hs hk ho
  go_enter Try.func21, Try.ntmps21
  go_upto_region 1 with fail
  generalize hw1 : World.alloc (World.alloc W _) _ = w1
  have hb : Below W.heap.size W w1 := by rw [← hw1]; exact below_alloc (td_alloc W _) _
  have e1_ : (W.alloc (.cells #[.string s.f0, .string s.f1] 24)).heap.size = W.heap.size + 1 := Array.size_push _
  have HX := Aside0.mk (show w1.heap[W.heap.size]? = some (.cells #[.string s.f0, .string s.f1] 24 (0, 0)) from by rw [← hw1]; exact td_kept (blk_new W _) (td_alloc _ _))
  have HA := Aside0.mk (show w1.heap[W.heap.size + 1]? = some (.cells #[.int .i64 a.1, .int .i64 a.2] 31 (0, 0)) from by
    have q := blk_new (W.alloc (.cells #[.string s.f0, .string s.f1] 24)) (.cells #[.int .i64 a.1, .int .i64 a.2] 31)
    rw [e1_, hw1] at q
    exact q)
  have HNG := Aside0.mk (And.intro (Nat.ne_of_gt HT0.out.lt) (show W.heap.size + 1 ≠ g from by have := HT0.out.lt; omega))
  have HT := Aside0.mk (HT0.out.step hb)
  have HN := Aside0.mk (Tn.of_below (B := W0.heap.size) (g := some g) (ty := 67) hb)
  have HB := Aside0.mk hb
  clear hw1 hb e1_
  generalize W.heap.size = n at HX HA HNG ⊢
  have x0 : w1.cell? ⟨n, 0, none⟩ = some (.string s.f0) := (blk_cell HX.out 0).trans rfl
  have x1 : w1.cell? ⟨n, 1, none⟩ = some (.string s.f1) := (blk_cell HX.out 1).trans rfl
  go_wp2_with fail
  refine (rl_sp s _).mono ?_
  rintro e w3 ⟨rfl, hb⟩
  clear x0 x1
  have HX_ := Aside0.mk (td_kept HX.out hb)
  clear HX
  have HX := Aside0.mk HX_.out
  clear HX_
  have HA_ := Aside0.mk (td_kept HA.out hb)
  clear HA
  have HA := Aside0.mk HA_.out
  clear HA_
  have HT_ := Aside0.mk (HT.out.step hb)
  clear HT
  have HT := Aside0.mk HT_.out
  clear HT_
  have HN_ := Aside0.mk (HN.out.trans (Tn.of_below hb))
  clear HN
  have HN := Aside0.mk HN_.out
  clear HN_
  have HB_ := Aside0.mk (below_step HB.out hb)
  clear HB
  have HB := Aside0.mk HB_.out
  clear HB_
  clear hb
  rw [HS.out]
  have a0 : w3.cell? ⟨n + 1, 0, none⟩ = some (.int .i64 a.1) := (blk_cell HA.out 0).trans rfl
  have a1 : w3.cell? ⟨n + 1, 1, none⟩ = some (.int .i64 a.2) := (blk_cell HA.out 1).trans rfl
  go_wp2_with fail
  refine (rl_chk a _).mono ?_
  rintro e w4 ⟨rfl, hb⟩
  clear a0 a1
  have HX_ := Aside0.mk (td_kept HX.out hb)
  clear HX
  have HX := Aside0.mk HX_.out
  clear HX_
  have HA_ := Aside0.mk (td_kept HA.out hb)
  clear HA
  have HA := Aside0.mk HA_.out
  clear HA_
  have HT_ := Aside0.mk (HT.out.step hb)
  clear HT
  have HT := Aside0.mk HT_.out
  clear HT_
  have HN_ := Aside0.mk (HN.out.trans (Tn.of_below hb))
  clear HN
  have HN := Aside0.mk HN_.out
  clear HN_
  have HB_ := Aside0.mk (below_step HB.out hb)
  clear HB
  have HB := Aside0.mk HB_.out
  clear HB_
  clear hb
  rw [HK.out]
  go_wp2_with fail
  refine (rl_own o _).mono ?_
  rintro e w5 ⟨rfl, hb⟩
  have HX_ := Aside0.mk (td_kept HX.out hb)
  clear HX
  have HX := Aside0.mk HX_.out
  clear HX_
  have HA_ := Aside0.mk (td_kept HA.out hb)
  clear HA
  have HA := Aside0.mk HA_.out
  clear HA_
  have HT_ := Aside0.mk (HT.out.step hb)
  clear HT
  have HT := Aside0.mk HT_.out
  clear HT_
  have HN_ := Aside0.mk (HN.out.trans (Tn.of_below hb))
  clear HN
  have HN := Aside0.mk HN_.out
  clear HN_
  have HB_ := Aside0.mk (below_step HB.out hb)
  clear HB
  have HB := Aside0.mk HB_.out
  clear HB_
  clear hb
  rw [HW.out]
  go_wp2_with fail
  go_ret
  exact ⟨rfl, ⟨_, _, HT.out⟩, HN.out⟩
set_option maxHeartbeats 16000000 in
set_option maxRecDepth 100000 in
theorem rt_add_low (W0 W : World) (g : Nat) (t : Td S24) (A : Option Addr) (c : Nat) (s : S24) (a : Int × Int) (o : Int) (h : RtA W0 W g t A c) (hs : spErr s = 0) (hk : sok a = true) (ho : own o = true) (hl : decide (tlt t.low a) = false) : Calls Try.prog 21 #[.pointer (some ⟨g, 0, none⟩), .agg #[.string s.f0, .string s.f1], .agg #[.int .i64 a.1, .int .i64 a.2], .int .i64 o] W (RtPost W0 W g t (.returned (.int .i64 0))) := by
  have HT0 := Aside0.mk h
  have HS := Aside0.mk hs
  have HK := Aside0.mk hk
  have HW := Aside0.mk ho
  have HLW := Aside0.mk hl
  clear h hs hk ho hl
  go_enter Try.func21, Try.ntmps21
  go_upto_region 1 with fail
  generalize hw1 : World.alloc (World.alloc W _) _ = w1
  have hb : Below W.heap.size W w1 := by rw [← hw1]; exact below_alloc (td_alloc W _) _
  have e1_ : (W.alloc (.cells #[.string s.f0, .string s.f1] 24)).heap.size = W.heap.size + 1 := Array.size_push _
  have HX := Aside0.mk (show w1.heap[W.heap.size]? = some (.cells #[.string s.f0, .string s.f1] 24 (0, 0)) from by rw [← hw1]; exact td_kept (blk_new W _) (td_alloc _ _))
  have HA := Aside0.mk (show w1.heap[W.heap.size + 1]? = some (.cells #[.int .i64 a.1, .int .i64 a.2] 31 (0, 0)) from by
    have q := blk_new (W.alloc (.cells #[.string s.f0, .string s.f1] 24)) (.cells #[.int .i64 a.1, .int .i64 a.2] 31)
    rw [e1_, hw1] at q
    exact q)
  have HNG := Aside0.mk (And.intro (Nat.ne_of_gt HT0.out.lt) (show W.heap.size + 1 ≠ g from by have := HT0.out.lt; omega))
  have HT := Aside0.mk (HT0.out.step hb)
  have HN := Aside0.mk (Tn.of_below (B := W0.heap.size) (g := some g) (ty := 67) hb)
  have HB := Aside0.mk hb
  clear hw1 hb e1_
  generalize W.heap.size = n at HX HA HNG ⊢
  have x0 : w1.cell? ⟨n, 0, none⟩ = some (.string s.f0) := (blk_cell HX.out 0).trans rfl
  have x1 : w1.cell? ⟨n, 1, none⟩ = some (.string s.f1) := (blk_cell HX.out 1).trans rfl
  go_wp2_with fail
  refine (rl_sp s _).mono ?_
  rintro e w3 ⟨rfl, hb⟩
  clear x0 x1
  have HX_ := Aside0.mk (td_kept HX.out hb)
  clear HX
  have HX := Aside0.mk HX_.out
  clear HX_
  have HA_ := Aside0.mk (td_kept HA.out hb)
  clear HA
  have HA := Aside0.mk HA_.out
  clear HA_
  have HT_ := Aside0.mk (HT.out.step hb)
  clear HT
  have HT := Aside0.mk HT_.out
  clear HT_
  have HN_ := Aside0.mk (HN.out.trans (Tn.of_below hb))
  clear HN
  have HN := Aside0.mk HN_.out
  clear HN_
  have HB_ := Aside0.mk (below_step HB.out hb)
  clear HB
  have HB := Aside0.mk HB_.out
  clear HB_
  clear hb
  rw [HS.out]
  have a0 : w3.cell? ⟨n + 1, 0, none⟩ = some (.int .i64 a.1) := (blk_cell HA.out 0).trans rfl
  have a1 : w3.cell? ⟨n + 1, 1, none⟩ = some (.int .i64 a.2) := (blk_cell HA.out 1).trans rfl
  go_wp2_with fail
  refine (rl_chk a _).mono ?_
  rintro e w4 ⟨rfl, hb⟩
  clear a0 a1
  have HX_ := Aside0.mk (td_kept HX.out hb)
  clear HX
  have HX := Aside0.mk HX_.out
  clear HX_
  have HA_ := Aside0.mk (td_kept HA.out hb)
  clear HA
  have HA := Aside0.mk HA_.out
  clear HA_
  have HT_ := Aside0.mk (HT.out.step hb)
  clear HT
  have HT := Aside0.mk HT_.out
  clear HT_
  have HN_ := Aside0.mk (HN.out.trans (Tn.of_below hb))
  clear HN
  have HN := Aside0.mk HN_.out
  clear HN_
  have HB_ := Aside0.mk (below_step HB.out hb)
  clear HB
  have HB := Aside0.mk HB_.out
  clear HB_
  clear hb
  rw [HK.out]
  go_wp2_with fail
  refine (rl_own o _).mono ?_
  rintro e w5 ⟨rfl, hb⟩
  have HX_ := Aside0.mk (td_kept HX.out hb)
  clear HX
  have HX := Aside0.mk HX_.out
  clear HX_
  have HA_ := Aside0.mk (td_kept HA.out hb)
  clear HA
  have HA := Aside0.mk HA_.out
  clear HA_
  have HT_ := Aside0.mk (HT.out.step hb)
  clear HT
  have HT := Aside0.mk HT_.out
  clear HT_
  have HN_ := Aside0.mk (HN.out.trans (Tn.of_below hb))
  clear HN
  have HN := Aside0.mk HN_.out
  clear HN_
  have HB_ := Aside0.mk (below_step HB.out hb)
  clear HB
  have HB := Aside0.mk HB_.out
  clear HB_
  clear hb
  rw [HW.out]
  go_upto_region 6 with fail
  refine wp_region_noPanic ?_
  refine wp_region_held_drew (S := (fun V => V.cell? ⟨n + 1, 0, none⟩ = some (.int .i64 a.1) ∧ V.cell? ⟨n + 1, 1, none⟩ = some (.int .i64 a.2) ∧ V.cell? ⟨g, 0, none⟩ = some (.int .i64 t.low.1) ∧ V.cell? ⟨g, 1, none⟩ = some (.int .i64 t.low.2))) (by kernel_rfl) ⟨(blk_cell (td_kept HA.out (below_drew1 (Below.refl _ _))) 0).trans rfl, (blk_cell (td_kept HA.out (below_drew1 (Below.refl _ _))) 1).trans rfl, (blk_cell (td_kept HT.out.box (below_drew1 (Below.refl _ _))) 0).trans rfl, (blk_cell (td_kept HT.out.box (below_drew1 (Below.refl _ _))) 1).trans rfl⟩ (fun hHeld => ?_)
  generalize hwd : World.drew _ = wd at hHeld ⊢
  have hb : Below w5.heap.size w5 wd := by rw [← hwd]; exact below_drew1 (Below.refl _ _)
  clear hwd
  have HX_ := Aside0.mk (td_kept HX.out hb)
  clear HX
  have HX := Aside0.mk HX_.out
  clear HX_
  have HA_ := Aside0.mk (td_kept HA.out hb)
  clear HA
  have HA := Aside0.mk HA_.out
  clear HA_
  have HT_ := Aside0.mk (HT.out.step hb)
  clear HT
  have HT := Aside0.mk HT_.out
  clear HT_
  have HN_ := Aside0.mk (HN.out.trans (Tn.of_below hb))
  clear HN
  have HN := Aside0.mk HN_.out
  clear HN_
  have HB_ := Aside0.mk (below_step HB.out hb)
  clear HB
  have HB := Aside0.mk HB_.out
  clear HB_
  clear hb
  refine tk_ (i := 0) (oi := ⟨some 26, _, _, _, _, none⟩) (v := ?v1) rfl (by rfl) ?y1 (by with_reducible assumption) ?r1
  case y1 => (intro V_ hSw; (try dsimp only at hSw); go_simp; (try with_reducible rfl))
  try simp only [Act.put, List.setIfInBounds_toArray, List.set_cons_zero, List.set_cons_succ]
  refine tk_ (i := 1) (oi := ⟨some 27, _, _, _, _, none⟩) (v := ?v2) rfl (by rfl) ?y2 (by with_reducible assumption) ?r2
  case y2 => (intro V_ hSw; (try dsimp only at hSw); go_simp; (try with_reducible rfl))
  try simp only [Act.put, List.setIfInBounds_toArray, List.set_cons_zero, List.set_cons_succ]
  refine tk_ (i := 2) (oi := ⟨some 28, _, _, _, _, none⟩) (v := ?v3) rfl (by rfl) ?y3 (by with_reducible assumption) ?r3
  case y3 => (intro V_ hSw; (try dsimp only at hSw); go_simp; (try with_reducible rfl))
  try simp only [Act.put, List.setIfInBounds_toArray, List.set_cons_zero, List.set_cons_succ]
  refine tk_ (i := 3) (oi := ⟨some 29, _, _, _, _, none⟩) (v := ?v4) rfl (by rfl) ?y4 (by with_reducible assumption) ?r4
  case y4 => (intro V_ hSw; (try dsimp only at hSw); go_simp; (try with_reducible rfl))
  try simp only [Act.put, List.setIfInBounds_toArray, List.set_cons_zero, List.set_cons_succ]
  refine tk_ (i := 4) (oi := ⟨some 30, _, _, _, _, none⟩) (v := ?v5) rfl (by rfl) ?y5 (by with_reducible assumption) ?r5
  case y5 => (intro V_ hSw; (try dsimp only at hSw); go_simp; (try with_reducible rfl))
  try simp only [Act.put, List.setIfInBounds_toArray, List.set_cons_zero, List.set_cons_succ]
  refine wpAnyH_ready (rs := [5]) (by kernel_rfl) (by simp) (AllReadyH.cons (o := ⟨some 31, _, _, _, _, none⟩) rfl (fun K hK => ?_) AllReadyH.nil)
  go_simp
  refine (rl_less t.low a _).mono ?_
  rintro e w6 ⟨rfl, hb⟩
  have HX_ := Aside0.mk (td_kept HX.out hb)
  clear HX
  have HX := Aside0.mk HX_.out
  clear HX_
  have HA_ := Aside0.mk (td_kept HA.out hb)
  clear HA
  have HA := Aside0.mk HA_.out
  clear HA_
  have HT_ := Aside0.mk (HT.out.step hb)
  clear HT
  have HT := Aside0.mk HT_.out
  clear HT_
  have HN_ := Aside0.mk (HN.out.trans (Tn.of_below hb))
  clear HN
  have HN := Aside0.mk HN_.out
  clear HN_
  have HB_ := Aside0.mk (below_step HB.out hb)
  clear HB
  have HB := Aside0.mk HB_.out
  clear HB_
  clear hb
  rw [HLW.out]
  refine hK.out _ _ ⟨(blk_cell (td_kept HA.out (Below.refl _ _)) 0).trans rfl, (blk_cell (td_kept HA.out (Below.refl _ _)) 1).trans rfl, (blk_cell (td_kept HT.out.box (Below.refl _ _)) 0).trans rfl, (blk_cell (td_kept HT.out.box (Below.refl _ _)) 1).trans rfl⟩ (fun hHeld => ?_)
  clear hK K
  try simp only [Act.put, List.setIfInBounds_toArray, List.set_cons_zero, List.set_cons_succ]
  refine tk_ (i := 6) (oi := ⟨some 32, _, _, _, _, none⟩) (v := ?v6) rfl (by rfl) ?y6 (by with_reducible assumption) ?r6
  case y6 => (intro V_ hSw; (try dsimp only at hSw); go_simp; (try with_reducible rfl))
  try simp only [Act.put, List.setIfInBounds_toArray, List.set_cons_zero, List.set_cons_succ]
  refine wpAnyH_done (by kernel_rfl) ?_ _
  refine NoPanic.normal ?_
  go_wp2_with fail
  go_ret
  exact ⟨rfl, ⟨_, _, HT.out⟩, HN.out⟩
theorem rt_block {W : World} {base r n c : Nat} {l : List (Rd S24)} (h : Kd.R k63 67 W base (fun _ => True) (.slice (some ⟨r, 0, none⟩) n c) l) : ∃ cur : Array Value, W.heap[r]? = some (.cells cur 67 (0, 0)) ∧ cur.size = c * 5 ∧ n ≤ c := by
  obtain ⟨_, inner, ⟨_, ho2⟩, _⟩ := h
  rcases ho2 with ⟨hv', _⟩ | ⟨g', cap', cur, hv', hb, hh, hnc, hcm, hcs, ht⟩
  · cases hv'
  injection hv' with ha hm hc
  injection ha with ha
  injection ha with hg
  subst hg; subst hc
  exact ⟨cur, hh, hcs, by omega⟩
set_option maxHeartbeats 16000000 in
set_option maxRecDepth 100000 in
theorem rt_add_up (W0 W : World) (g : Nat) (t : Td S24) (A : Option Addr) (c : Nat) (s : S24) (a : Int × Int) (o : Int) (h : RtA W0 W g t A c) (hs : spErr s = 0) (hk : sok a = true) (ho : own o = true) (hl : tlt t.low a) (k : Nat) (hkl : k < t.l.length) (h1 : same s o (t.l.getD k z63) = true) (h2 : ∀ j, j < k → same s o (t.l.getD j z63) = false) : Calls Try.prog 21 #[.pointer (some ⟨g, 0, none⟩), .agg #[.string s.f0, .string s.f1], .agg #[.int .i64 a.1, .int .i64 a.2], .int .i64 o] W (RtPost W0 W g { t with l := t.l.set k { (t.l.getD k z63) with at_ := tmx (t.l.getD k z63).at_ a } } (.returned (.int .i64 0))) := by
  have HT0 := Aside0.mk h
  have HS := Aside0.mk hs
  have HK := Aside0.mk hk
  have HW := Aside0.mk ho
  have HLW := Aside0.mk (decide_eq_true hl)
  have HROW0 := Aside0.mk h.row
  have HLM := Aside0.mk (Kd.C_max (Kd.R_reads' h.row).2.2)
  have HKL := Aside0.mk hkl
  have HH1 := Aside0.mk h1
  have HH2 := Aside0.mk h2
  obtain ⟨r, c', er, hbr, hltr, cellsr, hcellr⟩ := Kd.R_form HROW0.out (by omega)
  injection er with er _ ec
  subst er; subst ec
  clear hbr hltr hcellr
  obtain ⟨yk, hyk⟩ : ∃ y, t.l.getD k z63 = y := ⟨_, rfl⟩
  have HYK := Aside0.mk hyk
  rw [hyk]
  clear h hs hk ho hl h1 h2 hkl hyk
  go_enter Try.func21, Try.ntmps21
  go_upto_region 1 with fail
  generalize hw1 : World.alloc (World.alloc W _) _ = w1
  have hb : Below W.heap.size W w1 := by rw [← hw1]; exact below_alloc (td_alloc W _) _
  have e1_ : (W.alloc (.cells #[.string s.f0, .string s.f1] 24)).heap.size = W.heap.size + 1 := Array.size_push _
  have HX := Aside0.mk (show w1.heap[W.heap.size]? = some (.cells #[.string s.f0, .string s.f1] 24 (0, 0)) from by rw [← hw1]; exact td_kept (blk_new W _) (td_alloc _ _))
  have HA := Aside0.mk (show w1.heap[W.heap.size + 1]? = some (.cells #[.int .i64 a.1, .int .i64 a.2] 31 (0, 0)) from by
    have q := blk_new (W.alloc (.cells #[.string s.f0, .string s.f1] 24)) (.cells #[.int .i64 a.1, .int .i64 a.2] 31)
    rw [e1_, hw1] at q
    exact q)
  have HNG := Aside0.mk (And.intro (Nat.ne_of_gt HT0.out.lt) (show W.heap.size + 1 ≠ g from by have := HT0.out.lt; omega))
  have HT := Aside0.mk (HT0.out.step hb)
  have HN := Aside0.mk (Tn.of_below (B := W0.heap.size) (g := some g) (ty := 67) hb)
  have HB := Aside0.mk hb
  clear hw1 hb e1_
  generalize W.heap.size = n at HX HA HNG ⊢
  have x0 : w1.cell? ⟨n, 0, none⟩ = some (.string s.f0) := (blk_cell HX.out 0).trans rfl
  have x1 : w1.cell? ⟨n, 1, none⟩ = some (.string s.f1) := (blk_cell HX.out 1).trans rfl
  go_wp2_with fail
  refine (rl_sp s _).mono ?_
  rintro e w3 ⟨rfl, hb⟩
  clear x0 x1
  have HX_ := Aside0.mk (td_kept HX.out hb)
  clear HX
  have HX := Aside0.mk HX_.out
  clear HX_
  have HA_ := Aside0.mk (td_kept HA.out hb)
  clear HA
  have HA := Aside0.mk HA_.out
  clear HA_
  have HT_ := Aside0.mk (HT.out.step hb)
  clear HT
  have HT := Aside0.mk HT_.out
  clear HT_
  have HN_ := Aside0.mk (HN.out.trans (Tn.of_below hb))
  clear HN
  have HN := Aside0.mk HN_.out
  clear HN_
  have HB_ := Aside0.mk (below_step HB.out hb)
  clear HB
  have HB := Aside0.mk HB_.out
  clear HB_
  clear hb
  rw [HS.out]
  have a0 : w3.cell? ⟨n + 1, 0, none⟩ = some (.int .i64 a.1) := (blk_cell HA.out 0).trans rfl
  have a1 : w3.cell? ⟨n + 1, 1, none⟩ = some (.int .i64 a.2) := (blk_cell HA.out 1).trans rfl
  go_wp2_with fail
  refine (rl_chk a _).mono ?_
  rintro e w4 ⟨rfl, hb⟩
  clear a0 a1
  have HX_ := Aside0.mk (td_kept HX.out hb)
  clear HX
  have HX := Aside0.mk HX_.out
  clear HX_
  have HA_ := Aside0.mk (td_kept HA.out hb)
  clear HA
  have HA := Aside0.mk HA_.out
  clear HA_
  have HT_ := Aside0.mk (HT.out.step hb)
  clear HT
  have HT := Aside0.mk HT_.out
  clear HT_
  have HN_ := Aside0.mk (HN.out.trans (Tn.of_below hb))
  clear HN
  have HN := Aside0.mk HN_.out
  clear HN_
  have HB_ := Aside0.mk (below_step HB.out hb)
  clear HB
  have HB := Aside0.mk HB_.out
  clear HB_
  clear hb
  rw [HK.out]
  go_wp2_with fail
  refine (rl_own o _).mono ?_
  rintro e w5 ⟨rfl, hb⟩
  have HX_ := Aside0.mk (td_kept HX.out hb)
  clear HX
  have HX := Aside0.mk HX_.out
  clear HX_
  have HA_ := Aside0.mk (td_kept HA.out hb)
  clear HA
  have HA := Aside0.mk HA_.out
  clear HA_
  have HT_ := Aside0.mk (HT.out.step hb)
  clear HT
  have HT := Aside0.mk HT_.out
  clear HT_
  have HN_ := Aside0.mk (HN.out.trans (Tn.of_below hb))
  clear HN
  have HN := Aside0.mk HN_.out
  clear HN_
  have HB_ := Aside0.mk (below_step HB.out hb)
  clear HB
  have HB := Aside0.mk HB_.out
  clear HB_
  clear hb
  rw [HW.out]
  go_upto_region 6 with fail
  refine wp_region_noPanic ?_
  refine wp_region_held_drew (S := (fun V => V.cell? ⟨n + 1, 0, none⟩ = some (.int .i64 a.1) ∧ V.cell? ⟨n + 1, 1, none⟩ = some (.int .i64 a.2) ∧ V.cell? ⟨g, 0, none⟩ = some (.int .i64 t.low.1) ∧ V.cell? ⟨g, 1, none⟩ = some (.int .i64 t.low.2))) (by kernel_rfl) ⟨(blk_cell (td_kept HA.out (below_drew1 (Below.refl _ _))) 0).trans rfl, (blk_cell (td_kept HA.out (below_drew1 (Below.refl _ _))) 1).trans rfl, (blk_cell (td_kept HT.out.box (below_drew1 (Below.refl _ _))) 0).trans rfl, (blk_cell (td_kept HT.out.box (below_drew1 (Below.refl _ _))) 1).trans rfl⟩ (fun hHeld => ?_)
  generalize hwd : World.drew _ = wd at hHeld ⊢
  have hb : Below w5.heap.size w5 wd := by rw [← hwd]; exact below_drew1 (Below.refl _ _)
  clear hwd
  have HX_ := Aside0.mk (td_kept HX.out hb)
  clear HX
  have HX := Aside0.mk HX_.out
  clear HX_
  have HA_ := Aside0.mk (td_kept HA.out hb)
  clear HA
  have HA := Aside0.mk HA_.out
  clear HA_
  have HT_ := Aside0.mk (HT.out.step hb)
  clear HT
  have HT := Aside0.mk HT_.out
  clear HT_
  have HN_ := Aside0.mk (HN.out.trans (Tn.of_below hb))
  clear HN
  have HN := Aside0.mk HN_.out
  clear HN_
  have HB_ := Aside0.mk (below_step HB.out hb)
  clear HB
  have HB := Aside0.mk HB_.out
  clear HB_
  clear hb
  refine tk_ (i := 0) (oi := ⟨some 26, _, _, _, _, none⟩) (v := ?v7) rfl (by rfl) ?y7 (by with_reducible assumption) ?r7
  case y7 => (intro V_ hSw; (try dsimp only at hSw); go_simp; (try with_reducible rfl))
  try simp only [Act.put, List.setIfInBounds_toArray, List.set_cons_zero, List.set_cons_succ]
  refine tk_ (i := 1) (oi := ⟨some 27, _, _, _, _, none⟩) (v := ?v8) rfl (by rfl) ?y8 (by with_reducible assumption) ?r8
  case y8 => (intro V_ hSw; (try dsimp only at hSw); go_simp; (try with_reducible rfl))
  try simp only [Act.put, List.setIfInBounds_toArray, List.set_cons_zero, List.set_cons_succ]
  refine tk_ (i := 2) (oi := ⟨some 28, _, _, _, _, none⟩) (v := ?v9) rfl (by rfl) ?y9 (by with_reducible assumption) ?r9
  case y9 => (intro V_ hSw; (try dsimp only at hSw); go_simp; (try with_reducible rfl))
  try simp only [Act.put, List.setIfInBounds_toArray, List.set_cons_zero, List.set_cons_succ]
  refine tk_ (i := 3) (oi := ⟨some 29, _, _, _, _, none⟩) (v := ?v10) rfl (by rfl) ?y10 (by with_reducible assumption) ?r10
  case y10 => (intro V_ hSw; (try dsimp only at hSw); go_simp; (try with_reducible rfl))
  try simp only [Act.put, List.setIfInBounds_toArray, List.set_cons_zero, List.set_cons_succ]
  refine tk_ (i := 4) (oi := ⟨some 30, _, _, _, _, none⟩) (v := ?v11) rfl (by rfl) ?y11 (by with_reducible assumption) ?r11
  case y11 => (intro V_ hSw; (try dsimp only at hSw); go_simp; (try with_reducible rfl))
  try simp only [Act.put, List.setIfInBounds_toArray, List.set_cons_zero, List.set_cons_succ]
  refine wpAnyH_ready (rs := [5]) (by kernel_rfl) (by simp) (AllReadyH.cons (o := ⟨some 31, _, _, _, _, none⟩) rfl (fun K hK => ?_) AllReadyH.nil)
  go_simp
  refine (rl_less t.low a _).mono ?_
  rintro e w6 ⟨rfl, hb⟩
  have HX_ := Aside0.mk (td_kept HX.out hb)
  clear HX
  have HX := Aside0.mk HX_.out
  clear HX_
  have HA_ := Aside0.mk (td_kept HA.out hb)
  clear HA
  have HA := Aside0.mk HA_.out
  clear HA_
  have HT_ := Aside0.mk (HT.out.step hb)
  clear HT
  have HT := Aside0.mk HT_.out
  clear HT_
  have HN_ := Aside0.mk (HN.out.trans (Tn.of_below hb))
  clear HN
  have HN := Aside0.mk HN_.out
  clear HN_
  have HB_ := Aside0.mk (below_step HB.out hb)
  clear HB
  have HB := Aside0.mk HB_.out
  clear HB_
  clear hb
  rw [HLW.out]
  refine hK.out _ _ ⟨(blk_cell (td_kept HA.out (Below.refl _ _)) 0).trans rfl, (blk_cell (td_kept HA.out (Below.refl _ _)) 1).trans rfl, (blk_cell (td_kept HT.out.box (Below.refl _ _)) 0).trans rfl, (blk_cell (td_kept HT.out.box (Below.refl _ _)) 1).trans rfl⟩ (fun hHeld => ?_)
  clear hK K
  try simp only [Act.put, List.setIfInBounds_toArray, List.set_cons_zero, List.set_cons_succ]
  refine tk_ (i := 6) (oi := ⟨some 32, _, _, _, _, none⟩) (v := ?v12) rfl (by rfl) ?y12 (by with_reducible assumption) ?r12
  case y12 => (intro V_ hSw; (try dsimp only at hSw); go_simp; (try with_reducible rfl))
  try simp only [Act.put, List.setIfInBounds_toArray, List.set_cons_zero, List.set_cons_succ]
  refine wpAnyH_done (by kernel_rfl) ?_ _
  refine NoPanic.normal ?_
  clear hHeld
  go_wp2_with fail
  go_loopg [10] (t.l.length + 1) (fun gg v wr => ∃ (i : Nat), v = .int .i64 (i : Int) ∧ Aside0 (i + gg = t.l.length + 1) ∧ Aside0 (i ≤ k) ∧ Aside0 (RtA W0 wr g t (some ⟨r, 0, none⟩) c) ∧ Aside0 (Tn W0.heap.size (some g) 67 W wr) ∧ Aside0 (Below W.heap.size W wr) ∧ Aside0 (wr.heap[n]? = some (.cells #[.string s.f0, .string s.f1] 24 (0, 0))) ∧ Aside0 (wr.heap[n + 1]? = some (.cells #[.int .i64 a.1, .int .i64 a.2] 31 (0, 0))))
  case atStart => exact ⟨0, rfl, ⟨by omega⟩, ⟨Nat.zero_le _⟩, HT, HN, HB, HX, HA⟩
  case round =>
    clear HT HN HB HX HA
    obtain ⟨i, rfl, HI, HIL, HT, HN, HB, HX, HA⟩ := hrel
    have hlt : i < t.l.length := by have h1 := HIL.out; have h2 := HKL.out; omega
    have d1 : decide ((i : Int) < (t.l.length : Int)) = true := decide_eq_true (by omega)
    have d1n : decide (i < t.l.length) = true := decide_eq_true hlt
    obtain ⟨ad, ea, y, hy, hld⟩ := ld_T63 (Kd.R_reads' HROW0.out).2.2 i hlt
    cases ea
    rw [add_plain] at hld
    have HLC := Aside0.mk (fun (V : World) (hV : Below W.heap.size W V) => (show V.cell? ⟨r, i * 5, none⟩ = some (.string y.s.f0) ∧ V.cell? ⟨r, i * 5 + 1, none⟩ = some (.string y.s.f1) ∧ V.cell? ⟨r, i * 5 + 2, none⟩ = some (.int .i64 y.at_.1) ∧ V.cell? ⟨r, i * 5 + 3, none⟩ = some (.int .i64 y.at_.2) ∧ V.cell? ⟨r, i * 5 + 4, none⟩ = some (.int .i64 y.o) from ⟨by have q := (hV.cell (World.block_lt_of_cell? W _ (hld 0 _ rfl))).trans (hld 0 _ rfl); exact q, by have q := (hV.cell (World.block_lt_of_cell? W _ (hld 1 _ rfl))).trans (hld 1 _ rfl); rw [add_field _ _ 1 (by omega)] at q; exact q, by have q := (hV.cell (World.block_lt_of_cell? W _ (hld 2 _ rfl))).trans (hld 2 _ rfl); rw [add_field _ _ 2 (by omega)] at q; exact q, by have q := (hV.cell (World.block_lt_of_cell? W _ (hld 3 _ rfl))).trans (hld 3 _ rfl); rw [add_field _ _ 3 (by omega)] at q; exact q, by have q := (hV.cell (World.block_lt_of_cell? W _ (hld 4 _ rfl))).trans (hld 4 _ rfl); rw [add_field _ _ 4 (by omega)] at q; exact q⟩))
    have HY := Aside0.mk hy
    have HLT := Aside0.mk hlt
    have p0 := eq_true (show (0 : Int) ≤ (i : Int) by omega)
    have q0 := eq_true (show (i : Int) < (t.l.length : Int) by omega)
    have q0n := eq_true hlt
    have g2 : wr.cell? ⟨g, 2, none⟩ = some (.slice (some ⟨r, 0, none⟩) t.l.length c) := (blk_cell HT.out.box 2).trans rfl
    have hwi : Go.RowKit.wrap64 ((i : Int) + 1) = ((i + 1 : Nat) : Int) := by
      have := HLM.out
      unfold Go.RowKit.wrap64
      omega
    have HWI := Aside0.mk hwi
    have HWI2 := Aside0.mk ((i64_w ((i : Int) + 1)).trans hwi)
    clear hwi
    by_cases hik : i = k
    case neg =>
      have HIK := Aside0.mk (show i < k from by have := HIL.out; omega)
      have HSM := Aside0.mk (show same s o y = false from by have q := HH2.out i HIK.out; rw [HY.out] at q; exact q)
      clear hy hld hlt hik
      by_cases h0 : y.s.f0.toList = s.f0.toList
      case neg =>
        have e0 := eq_false h0
        clear h0
        go_upto_region 11 with fail
        clear g2
        refine wp_region_noPanic ?_
        refine wp_region_held_drew (S := (fun V => (V.cell? ⟨r, i * 5, none⟩ = some (.string y.s.f0) ∧ V.cell? ⟨r, i * 5 + 1, none⟩ = some (.string y.s.f1) ∧ V.cell? ⟨r, i * 5 + 2, none⟩ = some (.int .i64 y.at_.1) ∧ V.cell? ⟨r, i * 5 + 3, none⟩ = some (.int .i64 y.at_.2) ∧ V.cell? ⟨r, i * 5 + 4, none⟩ = some (.int .i64 y.o)) ∧ V.cell? ⟨g, 2, none⟩ = some (.slice (some ⟨r, 0, none⟩) t.l.length c) ∧ V.cell? ⟨n, 0, none⟩ = some (.string s.f0) ∧ V.cell? ⟨n, 1, none⟩ = some (.string s.f1))) (by kernel_rfl) ⟨HLC.out _ (below_step HB.out (below_drew1 (Below.refl _ _))), (blk_cell (td_kept HT.out.box (below_drew1 (Below.refl _ _))) 2).trans rfl, (blk_cell (td_kept HX.out (below_drew1 (Below.refl _ _))) 0).trans rfl, (blk_cell (td_kept HX.out (below_drew1 (Below.refl _ _))) 1).trans rfl⟩ (fun hHeld => ?_)
        generalize hwd : World.drew _ = wd at hHeld ⊢
        have hb : Below wr.heap.size wr wd := by rw [← hwd]; exact below_drew1 (Below.refl _ _)
        clear hwd
        have HX_ := Aside0.mk (td_kept HX.out hb)
        clear HX
        have HX := Aside0.mk HX_.out
        clear HX_
        have HA_ := Aside0.mk (td_kept HA.out hb)
        clear HA
        have HA := Aside0.mk HA_.out
        clear HA_
        have HT_ := Aside0.mk (HT.out.step hb)
        clear HT
        have HT := Aside0.mk HT_.out
        clear HT_
        have HN_ := Aside0.mk (HN.out.trans (Tn.of_below hb))
        clear HN
        have HN := Aside0.mk HN_.out
        clear HN_
        have HB_ := Aside0.mk (below_step HB.out hb)
        clear HB
        have HB := Aside0.mk HB_.out
        clear HB_
        clear hb
        refine tk_ (i := 0) (oi := ⟨some 42, _, _, _, _, none⟩) (v := ?v13) rfl (by rfl) ?y13 (by with_reducible assumption) ?r13
        case y13 => (intro V_ hSw; (try dsimp only at hSw); go_simp; (try with_reducible rfl))
        try simp only [Act.put, List.setIfInBounds_toArray, List.set_cons_zero, List.set_cons_succ]
        refine tk_ (i := 1) (oi := ⟨some 43, _, _, _, _, none⟩) (v := ?v14) rfl (by rfl) ?y14 (by with_reducible assumption) ?r14
        case y14 => (intro V_ hSw; (try dsimp only at hSw); go_simp; (try with_reducible rfl))
        try simp only [Act.put, List.setIfInBounds_toArray, List.set_cons_zero, List.set_cons_succ]
        refine tk_ (i := 2) (oi := ⟨some 44, _, _, _, _, none⟩) (v := ?v15) rfl (by rfl) ?y15 (by with_reducible assumption) ?r15
        case y15 => (intro V_ hSw; (try dsimp only at hSw); go_simp; (try with_reducible rfl))
        try simp only [Act.put, List.setIfInBounds_toArray, List.set_cons_zero, List.set_cons_succ]
        refine tk_ (i := 3) (oi := ⟨some 45, _, _, _, _, none⟩) (v := ?v16) rfl (by rfl) ?y16 (by with_reducible assumption) ?r16
        case y16 => (intro V_ hSw; (try dsimp only at hSw); go_simp; (try with_reducible rfl))
        try simp only [Act.put, List.setIfInBounds_toArray, List.set_cons_zero, List.set_cons_succ]
        refine tk_ (i := 4) (oi := ⟨some 46, _, _, _, _, none⟩) (v := ?v17) rfl (by rfl) ?y17 (by with_reducible assumption) ?r17
        case y17 => (intro V_ hSw; (try dsimp only at hSw); go_simp; (try with_reducible rfl))
        try simp only [Act.put, List.setIfInBounds_toArray, List.set_cons_zero, List.set_cons_succ]
        refine tk_ (i := 5) (oi := ⟨some 47, _, _, _, _, none⟩) (v := ?v18) rfl (by rfl) ?y18 (by with_reducible assumption) ?r18
        case y18 => (intro V_ hSw; (try dsimp only at hSw); go_simp; (try with_reducible rfl))
        try simp only [Act.put, List.setIfInBounds_toArray, List.set_cons_zero, List.set_cons_succ]
        refine tk_ (i := 6) (oi := ⟨some 48, _, _, _, _, none⟩) (v := ?v19) rfl (by rfl) ?y19 (by with_reducible assumption) ?r19
        case y19 => (intro V_ hSw; (try dsimp only at hSw); go_simp; (try with_reducible rfl))
        try simp only [Act.put, List.setIfInBounds_toArray, List.set_cons_zero, List.set_cons_succ]
        refine tk_ (i := 7) (oi := ⟨some 49, _, _, _, _, none⟩) (v := ?v20) rfl (by rfl) ?y20 (by with_reducible assumption) ?r20
        case y20 => (intro V_ hSw; (try dsimp only at hSw); go_simp; (try with_reducible rfl))
        try simp only [Act.put, List.setIfInBounds_toArray, List.set_cons_zero, List.set_cons_succ]
        refine tk_ (i := 8) (oi := ⟨some 50, _, _, _, _, none⟩) (v := ?v21) rfl (by rfl) ?y21 (by with_reducible assumption) ?r21
        case y21 => (intro V_ hSw; (try dsimp only at hSw); go_simp; (try with_reducible rfl))
        try simp only [Act.put, List.setIfInBounds_toArray, List.set_cons_zero, List.set_cons_succ]
        refine tk_ (i := 9) (oi := ⟨some 51, _, _, _, _, none⟩) (v := ?v22) rfl (by rfl) ?y22 (by with_reducible assumption) ?r22
        case y22 => (intro V_ hSw; (try dsimp only at hSw); go_simp; (try with_reducible rfl))
        try simp only [Act.put, List.setIfInBounds_toArray, List.set_cons_zero, List.set_cons_succ]
        refine tk_ (i := 10) (oi := ⟨some 52, _, _, _, _, none⟩) (v := ?v23) rfl (by rfl) ?y23 (by with_reducible assumption) ?r23
        case y23 => (intro V_ hSw; (try dsimp only at hSw); go_simp; (try with_reducible rfl))
        try simp only [Act.put, List.setIfInBounds_toArray, List.set_cons_zero, List.set_cons_succ]
        refine tk0_ (i := 11) (oi := ⟨some 53, _, _, _, _, some (10, true)⟩) rfl (by rfl) (by with_reducible assumption) ?_
        try simp only [Act.put, List.setIfInBounds_toArray, List.set_cons_zero, List.set_cons_succ]
        refine tk0_ (i := 12) (oi := ⟨some 54, _, _, _, _, some (10, true)⟩) rfl (by rfl) (by with_reducible assumption) ?_
        try simp only [Act.put, List.setIfInBounds_toArray, List.set_cons_zero, List.set_cons_succ]
        refine tk0_ (i := 13) (oi := ⟨some 55, _, _, _, _, some (10, true)⟩) rfl (by rfl) (by with_reducible assumption) ?_
        try simp only [Act.put, List.setIfInBounds_toArray, List.set_cons_zero, List.set_cons_succ]
        refine tk0_ (i := 14) (oi := ⟨some 56, _, _, _, _, some (10, true)⟩) rfl (by rfl) (by with_reducible assumption) ?_
        try simp only [Act.put, List.setIfInBounds_toArray, List.set_cons_zero, List.set_cons_succ]
        refine tk0_ (i := 15) (oi := ⟨some 57, _, _, _, _, some (10, true)⟩) rfl (by rfl) (by with_reducible assumption) ?_
        try simp only [Act.put, List.setIfInBounds_toArray, List.set_cons_zero, List.set_cons_succ]
        refine tk0_ (i := 16) (oi := ⟨some 58, _, _, _, _, some (10, true)⟩) rfl (by rfl) (by with_reducible assumption) ?_
        try simp only [Act.put, List.setIfInBounds_toArray, List.set_cons_zero, List.set_cons_succ]
        refine tk0_ (i := 17) (oi := ⟨some 59, _, _, _, _, some (10, true)⟩) rfl (by rfl) (by with_reducible assumption) ?_
        try simp only [Act.put, List.setIfInBounds_toArray, List.set_cons_zero, List.set_cons_succ]
        refine tk0_ (i := 18) (oi := ⟨some 60, _, _, _, _, some (10, true)⟩) rfl (by rfl) (by with_reducible assumption) ?_
        try simp only [Act.put, List.setIfInBounds_toArray, List.set_cons_zero, List.set_cons_succ]
        refine tk0_ (i := 19) (oi := ⟨some 61, _, _, _, _, some (10, true)⟩) rfl (by rfl) (by with_reducible assumption) ?_
        try simp only [Act.put, List.setIfInBounds_toArray, List.set_cons_zero, List.set_cons_succ]
        refine tk0_ (i := 20) (oi := ⟨some 62, _, _, _, _, some (10, true)⟩) rfl (by rfl) (by with_reducible assumption) ?_
        try simp only [Act.put, List.setIfInBounds_toArray, List.set_cons_zero, List.set_cons_succ]
        refine tk_ (i := 21) (oi := ⟨some 63, _, _, _, _, none⟩) (v := ?v34) rfl (by rfl) ?y34 (by with_reducible assumption) ?r34
        case y34 => (intro V_ hSw; (try dsimp only at hSw); go_simp; (try with_reducible rfl))
        try simp only [Act.put, List.setIfInBounds_toArray, List.set_cons_zero, List.set_cons_succ]
        refine wpAnyH_done (by kernel_rfl) ?_ _
        refine NoPanic.normal ?_
        clear hHeld
        go_wp2_with fail
        go_roundg (t.l.length - i)
        case measure => have h1 := HI.out; have h2 := HLT.out; omega
        case rel => exact ⟨i + 1, congrArg (Value.int .i64) (by first | exact HWI.out | exact HWI2.out | rfl | omega), ⟨by have h1 := HI.out; have h2 := HLT.out; omega⟩, ⟨by have := HIK.out; omega⟩, HT, HN, HB, HX, HA⟩
      case pos =>
        by_cases h1 : y.s.f1.toList = s.f1.toList
        case neg =>
          have e0 := eq_true h0
          have e1 := eq_false h1
          clear h0 h1
          go_upto_region 11 with fail
          clear g2
          refine wp_region_noPanic ?_
          refine wp_region_held_drew (S := (fun V => (V.cell? ⟨r, i * 5, none⟩ = some (.string y.s.f0) ∧ V.cell? ⟨r, i * 5 + 1, none⟩ = some (.string y.s.f1) ∧ V.cell? ⟨r, i * 5 + 2, none⟩ = some (.int .i64 y.at_.1) ∧ V.cell? ⟨r, i * 5 + 3, none⟩ = some (.int .i64 y.at_.2) ∧ V.cell? ⟨r, i * 5 + 4, none⟩ = some (.int .i64 y.o)) ∧ V.cell? ⟨g, 2, none⟩ = some (.slice (some ⟨r, 0, none⟩) t.l.length c) ∧ V.cell? ⟨n, 0, none⟩ = some (.string s.f0) ∧ V.cell? ⟨n, 1, none⟩ = some (.string s.f1))) (by kernel_rfl) ⟨HLC.out _ (below_step HB.out (below_drew1 (Below.refl _ _))), (blk_cell (td_kept HT.out.box (below_drew1 (Below.refl _ _))) 2).trans rfl, (blk_cell (td_kept HX.out (below_drew1 (Below.refl _ _))) 0).trans rfl, (blk_cell (td_kept HX.out (below_drew1 (Below.refl _ _))) 1).trans rfl⟩ (fun hHeld => ?_)
          generalize hwd : World.drew _ = wd at hHeld ⊢
          have hb : Below wr.heap.size wr wd := by rw [← hwd]; exact below_drew1 (Below.refl _ _)
          clear hwd
          have HX_ := Aside0.mk (td_kept HX.out hb)
          clear HX
          have HX := Aside0.mk HX_.out
          clear HX_
          have HA_ := Aside0.mk (td_kept HA.out hb)
          clear HA
          have HA := Aside0.mk HA_.out
          clear HA_
          have HT_ := Aside0.mk (HT.out.step hb)
          clear HT
          have HT := Aside0.mk HT_.out
          clear HT_
          have HN_ := Aside0.mk (HN.out.trans (Tn.of_below hb))
          clear HN
          have HN := Aside0.mk HN_.out
          clear HN_
          have HB_ := Aside0.mk (below_step HB.out hb)
          clear HB
          have HB := Aside0.mk HB_.out
          clear HB_
          clear hb
          refine tk_ (i := 0) (oi := ⟨some 42, _, _, _, _, none⟩) (v := ?v35) rfl (by rfl) ?y35 (by with_reducible assumption) ?r35
          case y35 => (intro V_ hSw; (try dsimp only at hSw); go_simp; (try with_reducible rfl))
          try simp only [Act.put, List.setIfInBounds_toArray, List.set_cons_zero, List.set_cons_succ]
          refine tk_ (i := 1) (oi := ⟨some 43, _, _, _, _, none⟩) (v := ?v36) rfl (by rfl) ?y36 (by with_reducible assumption) ?r36
          case y36 => (intro V_ hSw; (try dsimp only at hSw); go_simp; (try with_reducible rfl))
          try simp only [Act.put, List.setIfInBounds_toArray, List.set_cons_zero, List.set_cons_succ]
          refine tk_ (i := 2) (oi := ⟨some 44, _, _, _, _, none⟩) (v := ?v37) rfl (by rfl) ?y37 (by with_reducible assumption) ?r37
          case y37 => (intro V_ hSw; (try dsimp only at hSw); go_simp; (try with_reducible rfl))
          try simp only [Act.put, List.setIfInBounds_toArray, List.set_cons_zero, List.set_cons_succ]
          refine tk_ (i := 3) (oi := ⟨some 45, _, _, _, _, none⟩) (v := ?v38) rfl (by rfl) ?y38 (by with_reducible assumption) ?r38
          case y38 => (intro V_ hSw; (try dsimp only at hSw); go_simp; (try with_reducible rfl))
          try simp only [Act.put, List.setIfInBounds_toArray, List.set_cons_zero, List.set_cons_succ]
          refine tk_ (i := 4) (oi := ⟨some 46, _, _, _, _, none⟩) (v := ?v39) rfl (by rfl) ?y39 (by with_reducible assumption) ?r39
          case y39 => (intro V_ hSw; (try dsimp only at hSw); go_simp; (try with_reducible rfl))
          try simp only [Act.put, List.setIfInBounds_toArray, List.set_cons_zero, List.set_cons_succ]
          refine tk_ (i := 5) (oi := ⟨some 47, _, _, _, _, none⟩) (v := ?v40) rfl (by rfl) ?y40 (by with_reducible assumption) ?r40
          case y40 => (intro V_ hSw; (try dsimp only at hSw); go_simp; (try with_reducible rfl))
          try simp only [Act.put, List.setIfInBounds_toArray, List.set_cons_zero, List.set_cons_succ]
          refine tk_ (i := 6) (oi := ⟨some 48, _, _, _, _, none⟩) (v := ?v41) rfl (by rfl) ?y41 (by with_reducible assumption) ?r41
          case y41 => (intro V_ hSw; (try dsimp only at hSw); go_simp; (try with_reducible rfl))
          try simp only [Act.put, List.setIfInBounds_toArray, List.set_cons_zero, List.set_cons_succ]
          refine tk_ (i := 7) (oi := ⟨some 49, _, _, _, _, none⟩) (v := ?v42) rfl (by rfl) ?y42 (by with_reducible assumption) ?r42
          case y42 => (intro V_ hSw; (try dsimp only at hSw); go_simp; (try with_reducible rfl))
          try simp only [Act.put, List.setIfInBounds_toArray, List.set_cons_zero, List.set_cons_succ]
          refine tk_ (i := 8) (oi := ⟨some 50, _, _, _, _, none⟩) (v := ?v43) rfl (by rfl) ?y43 (by with_reducible assumption) ?r43
          case y43 => (intro V_ hSw; (try dsimp only at hSw); go_simp; (try with_reducible rfl))
          try simp only [Act.put, List.setIfInBounds_toArray, List.set_cons_zero, List.set_cons_succ]
          refine tk_ (i := 9) (oi := ⟨some 51, _, _, _, _, none⟩) (v := ?v44) rfl (by rfl) ?y44 (by with_reducible assumption) ?r44
          case y44 => (intro V_ hSw; (try dsimp only at hSw); go_simp; (try with_reducible rfl))
          try simp only [Act.put, List.setIfInBounds_toArray, List.set_cons_zero, List.set_cons_succ]
          refine tk_ (i := 10) (oi := ⟨some 52, _, _, _, _, none⟩) (v := ?v45) rfl (by rfl) ?y45 (by with_reducible assumption) ?r45
          case y45 => (intro V_ hSw; (try dsimp only at hSw); go_simp; (try with_reducible rfl))
          try simp only [Act.put, List.setIfInBounds_toArray, List.set_cons_zero, List.set_cons_succ]
          refine tk0_ (i := 11) (oi := ⟨some 53, _, _, _, _, some (10, true)⟩) rfl (by rfl) (by with_reducible assumption) ?_
          try simp only [Act.put, List.setIfInBounds_toArray, List.set_cons_zero, List.set_cons_succ]
          refine tk0_ (i := 12) (oi := ⟨some 54, _, _, _, _, some (10, true)⟩) rfl (by rfl) (by with_reducible assumption) ?_
          try simp only [Act.put, List.setIfInBounds_toArray, List.set_cons_zero, List.set_cons_succ]
          refine tk0_ (i := 13) (oi := ⟨some 55, _, _, _, _, some (10, true)⟩) rfl (by rfl) (by with_reducible assumption) ?_
          try simp only [Act.put, List.setIfInBounds_toArray, List.set_cons_zero, List.set_cons_succ]
          refine tk0_ (i := 14) (oi := ⟨some 56, _, _, _, _, some (10, true)⟩) rfl (by rfl) (by with_reducible assumption) ?_
          try simp only [Act.put, List.setIfInBounds_toArray, List.set_cons_zero, List.set_cons_succ]
          refine tk0_ (i := 15) (oi := ⟨some 57, _, _, _, _, some (10, true)⟩) rfl (by rfl) (by with_reducible assumption) ?_
          try simp only [Act.put, List.setIfInBounds_toArray, List.set_cons_zero, List.set_cons_succ]
          refine tk0_ (i := 16) (oi := ⟨some 58, _, _, _, _, some (10, true)⟩) rfl (by rfl) (by with_reducible assumption) ?_
          try simp only [Act.put, List.setIfInBounds_toArray, List.set_cons_zero, List.set_cons_succ]
          refine tk0_ (i := 17) (oi := ⟨some 59, _, _, _, _, some (10, true)⟩) rfl (by rfl) (by with_reducible assumption) ?_
          try simp only [Act.put, List.setIfInBounds_toArray, List.set_cons_zero, List.set_cons_succ]
          refine tk0_ (i := 18) (oi := ⟨some 60, _, _, _, _, some (10, true)⟩) rfl (by rfl) (by with_reducible assumption) ?_
          try simp only [Act.put, List.setIfInBounds_toArray, List.set_cons_zero, List.set_cons_succ]
          refine tk0_ (i := 19) (oi := ⟨some 61, _, _, _, _, some (10, true)⟩) rfl (by rfl) (by with_reducible assumption) ?_
          try simp only [Act.put, List.setIfInBounds_toArray, List.set_cons_zero, List.set_cons_succ]
          refine tk0_ (i := 20) (oi := ⟨some 62, _, _, _, _, some (10, true)⟩) rfl (by rfl) (by with_reducible assumption) ?_
          try simp only [Act.put, List.setIfInBounds_toArray, List.set_cons_zero, List.set_cons_succ]
          refine tk_ (i := 21) (oi := ⟨some 63, _, _, _, _, none⟩) (v := ?v56) rfl (by rfl) ?y56 (by with_reducible assumption) ?r56
          case y56 => (intro V_ hSw; (try dsimp only at hSw); go_simp; (try with_reducible rfl))
          try simp only [Act.put, List.setIfInBounds_toArray, List.set_cons_zero, List.set_cons_succ]
          refine wpAnyH_done (by kernel_rfl) ?_ _
          refine NoPanic.normal ?_
          clear hHeld
          go_wp2_with fail
          go_roundg (t.l.length - i)
          case measure => have h1 := HI.out; have h2 := HLT.out; omega
          case rel => exact ⟨i + 1, congrArg (Value.int .i64) (by first | exact HWI.out | exact HWI2.out | rfl | omega), ⟨by have h1 := HI.out; have h2 := HLT.out; omega⟩, ⟨by have := HIK.out; omega⟩, HT, HN, HB, HX, HA⟩
        case pos =>
          have e2 : (y.o == o) = false := by
            have q := HSM.out
            unfold same at q
            rw [h0, h1] at q
            simpa using q
          have e2p : ¬ y.o = o := by simpa using e2
          have e0 := eq_true h0
          have e1 := eq_true h1
          have e3 := eq_false e2p
          clear h0 h1 e2p
          go_upto_region 11 with fail
          clear g2
          refine wp_region_noPanic ?_
          refine wp_region_held_drew (S := (fun V => (V.cell? ⟨r, i * 5, none⟩ = some (.string y.s.f0) ∧ V.cell? ⟨r, i * 5 + 1, none⟩ = some (.string y.s.f1) ∧ V.cell? ⟨r, i * 5 + 2, none⟩ = some (.int .i64 y.at_.1) ∧ V.cell? ⟨r, i * 5 + 3, none⟩ = some (.int .i64 y.at_.2) ∧ V.cell? ⟨r, i * 5 + 4, none⟩ = some (.int .i64 y.o)) ∧ V.cell? ⟨g, 2, none⟩ = some (.slice (some ⟨r, 0, none⟩) t.l.length c) ∧ V.cell? ⟨n, 0, none⟩ = some (.string s.f0) ∧ V.cell? ⟨n, 1, none⟩ = some (.string s.f1))) (by kernel_rfl) ⟨HLC.out _ (below_step HB.out (below_drew1 (Below.refl _ _))), (blk_cell (td_kept HT.out.box (below_drew1 (Below.refl _ _))) 2).trans rfl, (blk_cell (td_kept HX.out (below_drew1 (Below.refl _ _))) 0).trans rfl, (blk_cell (td_kept HX.out (below_drew1 (Below.refl _ _))) 1).trans rfl⟩ (fun hHeld => ?_)
          generalize hwd : World.drew _ = wd at hHeld ⊢
          have hb : Below wr.heap.size wr wd := by rw [← hwd]; exact below_drew1 (Below.refl _ _)
          clear hwd
          have HX_ := Aside0.mk (td_kept HX.out hb)
          clear HX
          have HX := Aside0.mk HX_.out
          clear HX_
          have HA_ := Aside0.mk (td_kept HA.out hb)
          clear HA
          have HA := Aside0.mk HA_.out
          clear HA_
          have HT_ := Aside0.mk (HT.out.step hb)
          clear HT
          have HT := Aside0.mk HT_.out
          clear HT_
          have HN_ := Aside0.mk (HN.out.trans (Tn.of_below hb))
          clear HN
          have HN := Aside0.mk HN_.out
          clear HN_
          have HB_ := Aside0.mk (below_step HB.out hb)
          clear HB
          have HB := Aside0.mk HB_.out
          clear HB_
          clear hb
          refine tk_ (i := 0) (oi := ⟨some 42, _, _, _, _, none⟩) (v := ?v57) rfl (by rfl) ?y57 (by with_reducible assumption) ?r57
          case y57 => (intro V_ hSw; (try dsimp only at hSw); go_simp; (try with_reducible rfl))
          try simp only [Act.put, List.setIfInBounds_toArray, List.set_cons_zero, List.set_cons_succ]
          refine tk_ (i := 1) (oi := ⟨some 43, _, _, _, _, none⟩) (v := ?v58) rfl (by rfl) ?y58 (by with_reducible assumption) ?r58
          case y58 => (intro V_ hSw; (try dsimp only at hSw); go_simp; (try with_reducible rfl))
          try simp only [Act.put, List.setIfInBounds_toArray, List.set_cons_zero, List.set_cons_succ]
          refine tk_ (i := 2) (oi := ⟨some 44, _, _, _, _, none⟩) (v := ?v59) rfl (by rfl) ?y59 (by with_reducible assumption) ?r59
          case y59 => (intro V_ hSw; (try dsimp only at hSw); go_simp; (try with_reducible rfl))
          try simp only [Act.put, List.setIfInBounds_toArray, List.set_cons_zero, List.set_cons_succ]
          refine tk_ (i := 3) (oi := ⟨some 45, _, _, _, _, none⟩) (v := ?v60) rfl (by rfl) ?y60 (by with_reducible assumption) ?r60
          case y60 => (intro V_ hSw; (try dsimp only at hSw); go_simp; (try with_reducible rfl))
          try simp only [Act.put, List.setIfInBounds_toArray, List.set_cons_zero, List.set_cons_succ]
          refine tk_ (i := 4) (oi := ⟨some 46, _, _, _, _, none⟩) (v := ?v61) rfl (by rfl) ?y61 (by with_reducible assumption) ?r61
          case y61 => (intro V_ hSw; (try dsimp only at hSw); go_simp; (try with_reducible rfl))
          try simp only [Act.put, List.setIfInBounds_toArray, List.set_cons_zero, List.set_cons_succ]
          refine tk_ (i := 5) (oi := ⟨some 47, _, _, _, _, none⟩) (v := ?v62) rfl (by rfl) ?y62 (by with_reducible assumption) ?r62
          case y62 => (intro V_ hSw; (try dsimp only at hSw); go_simp; (try with_reducible rfl))
          try simp only [Act.put, List.setIfInBounds_toArray, List.set_cons_zero, List.set_cons_succ]
          refine tk_ (i := 6) (oi := ⟨some 48, _, _, _, _, none⟩) (v := ?v63) rfl (by rfl) ?y63 (by with_reducible assumption) ?r63
          case y63 => (intro V_ hSw; (try dsimp only at hSw); go_simp; (try with_reducible rfl))
          try simp only [Act.put, List.setIfInBounds_toArray, List.set_cons_zero, List.set_cons_succ]
          refine tk_ (i := 7) (oi := ⟨some 49, _, _, _, _, none⟩) (v := ?v64) rfl (by rfl) ?y64 (by with_reducible assumption) ?r64
          case y64 => (intro V_ hSw; (try dsimp only at hSw); go_simp; (try with_reducible rfl))
          try simp only [Act.put, List.setIfInBounds_toArray, List.set_cons_zero, List.set_cons_succ]
          refine tk_ (i := 8) (oi := ⟨some 50, _, _, _, _, none⟩) (v := ?v65) rfl (by rfl) ?y65 (by with_reducible assumption) ?r65
          case y65 => (intro V_ hSw; (try dsimp only at hSw); go_simp; (try with_reducible rfl))
          try simp only [Act.put, List.setIfInBounds_toArray, List.set_cons_zero, List.set_cons_succ]
          refine tk_ (i := 9) (oi := ⟨some 51, _, _, _, _, none⟩) (v := ?v66) rfl (by rfl) ?y66 (by with_reducible assumption) ?r66
          case y66 => (intro V_ hSw; (try dsimp only at hSw); go_simp; (try with_reducible rfl))
          try simp only [Act.put, List.setIfInBounds_toArray, List.set_cons_zero, List.set_cons_succ]
          refine tk_ (i := 10) (oi := ⟨some 52, _, _, _, _, none⟩) (v := ?v67) rfl (by rfl) ?y67 (by with_reducible assumption) ?r67
          case y67 => (intro V_ hSw; (try dsimp only at hSw); go_simp; (try with_reducible rfl))
          try simp only [Act.put, List.setIfInBounds_toArray, List.set_cons_zero, List.set_cons_succ]
          refine tk_ (i := 11) (oi := ⟨some 53, _, _, _, _, some (10, true)⟩) (v := ?v68) rfl (by rfl) ?y68 (by with_reducible assumption) ?r68
          case y68 => (intro V_ hSw; (try dsimp only at hSw); go_simp; (try with_reducible rfl))
          try simp only [Act.put, List.setIfInBounds_toArray, List.set_cons_zero, List.set_cons_succ]
          refine tk_ (i := 12) (oi := ⟨some 54, _, _, _, _, some (10, true)⟩) (v := ?v69) rfl (by rfl) ?y69 (by with_reducible assumption) ?r69
          case y69 => (intro V_ hSw; (try dsimp only at hSw); go_simp; (try with_reducible rfl))
          try simp only [Act.put, List.setIfInBounds_toArray, List.set_cons_zero, List.set_cons_succ]
          refine tk_ (i := 13) (oi := ⟨some 55, _, _, _, _, some (10, true)⟩) (v := ?v70) rfl (by rfl) ?y70 (by with_reducible assumption) ?r70
          case y70 => (intro V_ hSw; (try dsimp only at hSw); go_simp; (try with_reducible rfl))
          try simp only [Act.put, List.setIfInBounds_toArray, List.set_cons_zero, List.set_cons_succ]
          refine tk_ (i := 14) (oi := ⟨some 56, _, _, _, _, some (10, true)⟩) (v := ?v71) rfl (by rfl) ?y71 (by with_reducible assumption) ?r71
          case y71 => (intro V_ hSw; (try dsimp only at hSw); go_simp; (try with_reducible rfl))
          try simp only [Act.put, List.setIfInBounds_toArray, List.set_cons_zero, List.set_cons_succ]
          refine tk_ (i := 15) (oi := ⟨some 57, _, _, _, _, some (10, true)⟩) (v := ?v72) rfl (by rfl) ?y72 (by with_reducible assumption) ?r72
          case y72 => (intro V_ hSw; (try dsimp only at hSw); go_simp; (try with_reducible rfl))
          try simp only [Act.put, List.setIfInBounds_toArray, List.set_cons_zero, List.set_cons_succ]
          refine tk_ (i := 16) (oi := ⟨some 58, _, _, _, _, some (10, true)⟩) (v := ?v73) rfl (by rfl) ?y73 (by with_reducible assumption) ?r73
          case y73 => (intro V_ hSw; (try dsimp only at hSw); go_simp; (try with_reducible rfl))
          try simp only [Act.put, List.setIfInBounds_toArray, List.set_cons_zero, List.set_cons_succ]
          refine tk_ (i := 17) (oi := ⟨some 59, _, _, _, _, some (10, true)⟩) (v := ?v74) rfl (by rfl) ?y74 (by with_reducible assumption) ?r74
          case y74 => (intro V_ hSw; (try dsimp only at hSw); go_simp; (try with_reducible rfl))
          try simp only [Act.put, List.setIfInBounds_toArray, List.set_cons_zero, List.set_cons_succ]
          refine tk_ (i := 18) (oi := ⟨some 60, _, _, _, _, some (10, true)⟩) (v := ?v75) rfl (by rfl) ?y75 (by with_reducible assumption) ?r75
          case y75 => (intro V_ hSw; (try dsimp only at hSw); go_simp; (try with_reducible rfl))
          try simp only [Act.put, List.setIfInBounds_toArray, List.set_cons_zero, List.set_cons_succ]
          refine tk_ (i := 19) (oi := ⟨some 61, _, _, _, _, some (10, true)⟩) (v := ?v76) rfl (by rfl) ?y76 (by with_reducible assumption) ?r76
          case y76 => (intro V_ hSw; (try dsimp only at hSw); go_simp; (try with_reducible rfl))
          try simp only [Act.put, List.setIfInBounds_toArray, List.set_cons_zero, List.set_cons_succ]
          refine tk_ (i := 20) (oi := ⟨some 62, _, _, _, _, some (10, true)⟩) (v := ?v77) rfl (by rfl) ?y77 (by with_reducible assumption) ?r77
          case y77 => (intro V_ hSw; (try dsimp only at hSw); go_simp; (try with_reducible rfl))
          try simp only [Act.put, List.setIfInBounds_toArray, List.set_cons_zero, List.set_cons_succ]
          refine tk_ (i := 21) (oi := ⟨some 63, _, _, _, _, none⟩) (v := ?v78) rfl (by rfl) ?y78 (by with_reducible assumption) ?r78
          case y78 => (intro V_ hSw; (try dsimp only at hSw); go_simp; (try with_reducible rfl))
          try simp only [Act.put, List.setIfInBounds_toArray, List.set_cons_zero, List.set_cons_succ]
          refine wpAnyH_done (by kernel_rfl) ?_ _
          refine NoPanic.normal ?_
          clear hHeld
          go_wp2_with fail
          go_roundg (t.l.length - i)
          case measure => have h1 := HI.out; have h2 := HLT.out; omega
          case rel => exact ⟨i + 1, congrArg (Value.int .i64) (by first | exact HWI.out | exact HWI2.out | rfl | omega), ⟨by have h1 := HI.out; have h2 := HLT.out; omega⟩, ⟨by have := HIK.out; omega⟩, HT, HN, HB, HX, HA⟩
    case pos =>
      have hsm := HH1.out
      rw [HYK.out] at hsm
      have eyk : y = yk := by rw [← HY.out, ← HYK.out, hik]
      subst eyk
      subst hik
      obtain ⟨hs1, hs2⟩ := (same_iff s o y).1 hsm
      have e0 := eq_true (show y.s.f0.toList = s.f0.toList by rw [hs1])
      have e1 := eq_true (show y.s.f1.toList = s.f1.toList by rw [hs1])
      have e2 : (y.o == o) = true := beq_iff_eq.mpr hs2
      have e3 := eq_true hs2
      clear hy hld hlt hsm hs1 hs2
      go_upto_region 11 with fail
      clear g2
      refine wp_region_noPanic ?_
      refine wp_region_held_drew (S := (fun V => (V.cell? ⟨r, i * 5, none⟩ = some (.string y.s.f0) ∧ V.cell? ⟨r, i * 5 + 1, none⟩ = some (.string y.s.f1) ∧ V.cell? ⟨r, i * 5 + 2, none⟩ = some (.int .i64 y.at_.1) ∧ V.cell? ⟨r, i * 5 + 3, none⟩ = some (.int .i64 y.at_.2) ∧ V.cell? ⟨r, i * 5 + 4, none⟩ = some (.int .i64 y.o)) ∧ V.cell? ⟨g, 2, none⟩ = some (.slice (some ⟨r, 0, none⟩) t.l.length c) ∧ V.cell? ⟨n, 0, none⟩ = some (.string s.f0) ∧ V.cell? ⟨n, 1, none⟩ = some (.string s.f1))) (by kernel_rfl) ⟨HLC.out _ (below_step HB.out (below_drew1 (Below.refl _ _))), (blk_cell (td_kept HT.out.box (below_drew1 (Below.refl _ _))) 2).trans rfl, (blk_cell (td_kept HX.out (below_drew1 (Below.refl _ _))) 0).trans rfl, (blk_cell (td_kept HX.out (below_drew1 (Below.refl _ _))) 1).trans rfl⟩ (fun hHeld => ?_)
      generalize hwd : World.drew _ = wd at hHeld ⊢
      have hb : Below wr.heap.size wr wd := by rw [← hwd]; exact below_drew1 (Below.refl _ _)
      clear hwd
      have HX_ := Aside0.mk (td_kept HX.out hb)
      clear HX
      have HX := Aside0.mk HX_.out
      clear HX_
      have HA_ := Aside0.mk (td_kept HA.out hb)
      clear HA
      have HA := Aside0.mk HA_.out
      clear HA_
      have HT_ := Aside0.mk (HT.out.step hb)
      clear HT
      have HT := Aside0.mk HT_.out
      clear HT_
      have HN_ := Aside0.mk (HN.out.trans (Tn.of_below hb))
      clear HN
      have HN := Aside0.mk HN_.out
      clear HN_
      have HB_ := Aside0.mk (below_step HB.out hb)
      clear HB
      have HB := Aside0.mk HB_.out
      clear HB_
      clear hb
      refine tk_ (i := 0) (oi := ⟨some 42, _, _, _, _, none⟩) (v := ?v79) rfl (by rfl) ?y79 (by with_reducible assumption) ?r79
      case y79 => (intro V_ hSw; (try dsimp only at hSw); go_simp; (try with_reducible rfl))
      try simp only [Act.put, List.setIfInBounds_toArray, List.set_cons_zero, List.set_cons_succ]
      refine tk_ (i := 1) (oi := ⟨some 43, _, _, _, _, none⟩) (v := ?v80) rfl (by rfl) ?y80 (by with_reducible assumption) ?r80
      case y80 => (intro V_ hSw; (try dsimp only at hSw); go_simp; (try with_reducible rfl))
      try simp only [Act.put, List.setIfInBounds_toArray, List.set_cons_zero, List.set_cons_succ]
      refine tk_ (i := 2) (oi := ⟨some 44, _, _, _, _, none⟩) (v := ?v81) rfl (by rfl) ?y81 (by with_reducible assumption) ?r81
      case y81 => (intro V_ hSw; (try dsimp only at hSw); go_simp; (try with_reducible rfl))
      try simp only [Act.put, List.setIfInBounds_toArray, List.set_cons_zero, List.set_cons_succ]
      refine tk_ (i := 3) (oi := ⟨some 45, _, _, _, _, none⟩) (v := ?v82) rfl (by rfl) ?y82 (by with_reducible assumption) ?r82
      case y82 => (intro V_ hSw; (try dsimp only at hSw); go_simp; (try with_reducible rfl))
      try simp only [Act.put, List.setIfInBounds_toArray, List.set_cons_zero, List.set_cons_succ]
      refine tk_ (i := 4) (oi := ⟨some 46, _, _, _, _, none⟩) (v := ?v83) rfl (by rfl) ?y83 (by with_reducible assumption) ?r83
      case y83 => (intro V_ hSw; (try dsimp only at hSw); go_simp; (try with_reducible rfl))
      try simp only [Act.put, List.setIfInBounds_toArray, List.set_cons_zero, List.set_cons_succ]
      refine tk_ (i := 5) (oi := ⟨some 47, _, _, _, _, none⟩) (v := ?v84) rfl (by rfl) ?y84 (by with_reducible assumption) ?r84
      case y84 => (intro V_ hSw; (try dsimp only at hSw); go_simp; (try with_reducible rfl))
      try simp only [Act.put, List.setIfInBounds_toArray, List.set_cons_zero, List.set_cons_succ]
      refine tk_ (i := 6) (oi := ⟨some 48, _, _, _, _, none⟩) (v := ?v85) rfl (by rfl) ?y85 (by with_reducible assumption) ?r85
      case y85 => (intro V_ hSw; (try dsimp only at hSw); go_simp; (try with_reducible rfl))
      try simp only [Act.put, List.setIfInBounds_toArray, List.set_cons_zero, List.set_cons_succ]
      refine tk_ (i := 7) (oi := ⟨some 49, _, _, _, _, none⟩) (v := ?v86) rfl (by rfl) ?y86 (by with_reducible assumption) ?r86
      case y86 => (intro V_ hSw; (try dsimp only at hSw); go_simp; (try with_reducible rfl))
      try simp only [Act.put, List.setIfInBounds_toArray, List.set_cons_zero, List.set_cons_succ]
      refine tk_ (i := 8) (oi := ⟨some 50, _, _, _, _, none⟩) (v := ?v87) rfl (by rfl) ?y87 (by with_reducible assumption) ?r87
      case y87 => (intro V_ hSw; (try dsimp only at hSw); go_simp; (try with_reducible rfl))
      try simp only [Act.put, List.setIfInBounds_toArray, List.set_cons_zero, List.set_cons_succ]
      refine tk_ (i := 9) (oi := ⟨some 51, _, _, _, _, none⟩) (v := ?v88) rfl (by rfl) ?y88 (by with_reducible assumption) ?r88
      case y88 => (intro V_ hSw; (try dsimp only at hSw); go_simp; (try with_reducible rfl))
      try simp only [Act.put, List.setIfInBounds_toArray, List.set_cons_zero, List.set_cons_succ]
      refine tk_ (i := 10) (oi := ⟨some 52, _, _, _, _, none⟩) (v := ?v89) rfl (by rfl) ?y89 (by with_reducible assumption) ?r89
      case y89 => (intro V_ hSw; (try dsimp only at hSw); go_simp; (try with_reducible rfl))
      try simp only [Act.put, List.setIfInBounds_toArray, List.set_cons_zero, List.set_cons_succ]
      refine tk_ (i := 11) (oi := ⟨some 53, _, _, _, _, some (10, true)⟩) (v := ?v90) rfl (by rfl) ?y90 (by with_reducible assumption) ?r90
      case y90 => (intro V_ hSw; (try dsimp only at hSw); go_simp; (try with_reducible rfl))
      try simp only [Act.put, List.setIfInBounds_toArray, List.set_cons_zero, List.set_cons_succ]
      refine tk_ (i := 12) (oi := ⟨some 54, _, _, _, _, some (10, true)⟩) (v := ?v91) rfl (by rfl) ?y91 (by with_reducible assumption) ?r91
      case y91 => (intro V_ hSw; (try dsimp only at hSw); go_simp; (try with_reducible rfl))
      try simp only [Act.put, List.setIfInBounds_toArray, List.set_cons_zero, List.set_cons_succ]
      refine tk_ (i := 13) (oi := ⟨some 55, _, _, _, _, some (10, true)⟩) (v := ?v92) rfl (by rfl) ?y92 (by with_reducible assumption) ?r92
      case y92 => (intro V_ hSw; (try dsimp only at hSw); go_simp; (try with_reducible rfl))
      try simp only [Act.put, List.setIfInBounds_toArray, List.set_cons_zero, List.set_cons_succ]
      refine tk_ (i := 14) (oi := ⟨some 56, _, _, _, _, some (10, true)⟩) (v := ?v93) rfl (by rfl) ?y93 (by with_reducible assumption) ?r93
      case y93 => (intro V_ hSw; (try dsimp only at hSw); go_simp; (try with_reducible rfl))
      try simp only [Act.put, List.setIfInBounds_toArray, List.set_cons_zero, List.set_cons_succ]
      refine tk_ (i := 15) (oi := ⟨some 57, _, _, _, _, some (10, true)⟩) (v := ?v94) rfl (by rfl) ?y94 (by with_reducible assumption) ?r94
      case y94 => (intro V_ hSw; (try dsimp only at hSw); go_simp; (try with_reducible rfl))
      try simp only [Act.put, List.setIfInBounds_toArray, List.set_cons_zero, List.set_cons_succ]
      refine tk_ (i := 16) (oi := ⟨some 58, _, _, _, _, some (10, true)⟩) (v := ?v95) rfl (by rfl) ?y95 (by with_reducible assumption) ?r95
      case y95 => (intro V_ hSw; (try dsimp only at hSw); go_simp; (try with_reducible rfl))
      try simp only [Act.put, List.setIfInBounds_toArray, List.set_cons_zero, List.set_cons_succ]
      refine tk_ (i := 17) (oi := ⟨some 59, _, _, _, _, some (10, true)⟩) (v := ?v96) rfl (by rfl) ?y96 (by with_reducible assumption) ?r96
      case y96 => (intro V_ hSw; (try dsimp only at hSw); go_simp; (try with_reducible rfl))
      try simp only [Act.put, List.setIfInBounds_toArray, List.set_cons_zero, List.set_cons_succ]
      refine tk_ (i := 18) (oi := ⟨some 60, _, _, _, _, some (10, true)⟩) (v := ?v97) rfl (by rfl) ?y97 (by with_reducible assumption) ?r97
      case y97 => (intro V_ hSw; (try dsimp only at hSw); go_simp; (try with_reducible rfl))
      try simp only [Act.put, List.setIfInBounds_toArray, List.set_cons_zero, List.set_cons_succ]
      refine tk_ (i := 19) (oi := ⟨some 61, _, _, _, _, some (10, true)⟩) (v := ?v98) rfl (by rfl) ?y98 (by with_reducible assumption) ?r98
      case y98 => (intro V_ hSw; (try dsimp only at hSw); go_simp; (try with_reducible rfl))
      try simp only [Act.put, List.setIfInBounds_toArray, List.set_cons_zero, List.set_cons_succ]
      refine tk_ (i := 20) (oi := ⟨some 62, _, _, _, _, some (10, true)⟩) (v := ?v99) rfl (by rfl) ?y99 (by with_reducible assumption) ?r99
      case y99 => (intro V_ hSw; (try dsimp only at hSw); go_simp; (try with_reducible rfl))
      try simp only [Act.put, List.setIfInBounds_toArray, List.set_cons_zero, List.set_cons_succ]
      refine tk_ (i := 21) (oi := ⟨some 63, _, _, _, _, none⟩) (v := ?v100) rfl (by rfl) ?y100 (by with_reducible assumption) ?r100
      case y100 => (intro V_ hSw; (try dsimp only at hSw); go_simp; (try with_reducible rfl))
      try simp only [Act.put, List.setIfInBounds_toArray, List.set_cons_zero, List.set_cons_succ]
      refine wpAnyH_done (by kernel_rfl) ?_ _
      refine NoPanic.normal ?_
      clear hHeld
      rename World => wz
      go_upto_region 12 with fail
      refine wp_region_noPanic ?_
      refine wp_region_held_drew (S := (fun V => V.cell? ⟨n + 1, 0, none⟩ = some (.int .i64 a.1) ∧ V.cell? ⟨n + 1, 1, none⟩ = some (.int .i64 a.2) ∧ V.cell? ⟨g, 2, none⟩ = some (.slice (some ⟨r, 0, none⟩) t.l.length c))) (by kernel_rfl) ⟨(blk_cell (td_kept HA.out (below_drew1 (Below.refl _ _))) 0).trans rfl, (blk_cell (td_kept HA.out (below_drew1 (Below.refl _ _))) 1).trans rfl, (blk_cell (td_kept HT.out.box (below_drew1 (Below.refl _ _))) 2).trans rfl⟩ (fun hHeld => ?_)
      generalize hwd : World.drew _ = wd at hHeld ⊢
      have hb : Below wz.heap.size wz wd := by rw [← hwd]; exact below_drew1 (Below.refl _ _)
      clear hwd
      have HX_ := Aside0.mk (td_kept HX.out hb)
      clear HX
      have HX := Aside0.mk HX_.out
      clear HX_
      have HA_ := Aside0.mk (td_kept HA.out hb)
      clear HA
      have HA := Aside0.mk HA_.out
      clear HA_
      have HT_ := Aside0.mk (HT.out.step hb)
      clear HT
      have HT := Aside0.mk HT_.out
      clear HT_
      have HN_ := Aside0.mk (HN.out.trans (Tn.of_below hb))
      clear HN
      have HN := Aside0.mk HN_.out
      clear HN_
      have HB_ := Aside0.mk (below_step HB.out hb)
      clear HB
      have HB := Aside0.mk HB_.out
      clear HB_
      clear hb
      refine tk_ (i := 0) (oi := ⟨some 64, _, _, _, _, none⟩) (v := ?v101) rfl (by rfl) ?y101 (by with_reducible assumption) ?r101
      case y101 => (intro V_ hSw; (try dsimp only at hSw); go_simp; (try with_reducible rfl))
      try simp only [Act.put, List.setIfInBounds_toArray, List.set_cons_zero, List.set_cons_succ]
      refine tk_ (i := 1) (oi := ⟨some 65, _, _, _, _, none⟩) (v := ?v102) rfl (by rfl) ?y102 (by with_reducible assumption) ?r102
      case y102 => (intro V_ hSw; (try dsimp only at hSw); go_simp; (try with_reducible rfl))
      try simp only [Act.put, List.setIfInBounds_toArray, List.set_cons_zero, List.set_cons_succ]
      refine tk_ (i := 2) (oi := ⟨some 66, _, _, _, _, none⟩) (v := ?v103) rfl (by rfl) ?y103 (by with_reducible assumption) ?r103
      case y103 => (intro V_ hSw; (try dsimp only at hSw); go_simp; (try with_reducible rfl))
      try simp only [Act.put, List.setIfInBounds_toArray, List.set_cons_zero, List.set_cons_succ]
      refine tk_ (i := 3) (oi := ⟨some 67, _, _, _, _, none⟩) (v := ?v104) rfl (by rfl) ?y104 (by with_reducible assumption) ?r104
      case y104 => (intro V_ hSw; (try dsimp only at hSw); go_simp; (try with_reducible rfl))
      try simp only [Act.put, List.setIfInBounds_toArray, List.set_cons_zero, List.set_cons_succ]
      refine tk_ (i := 4) (oi := ⟨some 68, _, _, _, _, none⟩) (v := ?v105) rfl (by rfl) ?y105 (by with_reducible assumption) ?r105
      case y105 => (intro V_ hSw; (try dsimp only at hSw); go_simp; (try with_reducible rfl))
      try simp only [Act.put, List.setIfInBounds_toArray, List.set_cons_zero, List.set_cons_succ]
      refine tk_ (i := 5) (oi := ⟨some 69, _, _, _, _, none⟩) (v := ?v106) rfl (by rfl) ?y106 (by with_reducible assumption) ?r106
      case y106 => (intro V_ hSw; (try dsimp only at hSw); go_simp; (try with_reducible rfl))
      try simp only [Act.put, List.setIfInBounds_toArray, List.set_cons_zero, List.set_cons_succ]
      refine tk_ (i := 6) (oi := ⟨some 70, _, _, _, _, none⟩) (v := ?v107) rfl (by rfl) ?y107 (by with_reducible assumption) ?r107
      case y107 => (intro V_ hSw; (try dsimp only at hSw); go_simp; (try with_reducible rfl))
      try simp only [Act.put, List.setIfInBounds_toArray, List.set_cons_zero, List.set_cons_succ]
      refine tk_ (i := 7) (oi := ⟨some 71, _, _, _, _, none⟩) (v := ?v108) rfl (by rfl) ?y108 (by with_reducible assumption) ?r108
      case y108 => (intro V_ hSw; (try dsimp only at hSw); go_simp; (try with_reducible rfl))
      try simp only [Act.put, List.setIfInBounds_toArray, List.set_cons_zero, List.set_cons_succ]
      refine tk_ (i := 8) (oi := ⟨some 72, _, _, _, _, none⟩) (v := ?v109) rfl (by rfl) ?y109 (by with_reducible assumption) ?r109
      case y109 => (intro V_ hSw; (try dsimp only at hSw); go_simp; (try with_reducible rfl))
      try simp only [Act.put, List.setIfInBounds_toArray, List.set_cons_zero, List.set_cons_succ]
      refine tk_ (i := 9) (oi := ⟨some 73, _, _, _, _, none⟩) (v := ?v110) rfl (by rfl) ?y110 (by with_reducible assumption) ?r110
      case y110 => (intro V_ hSw; (try dsimp only at hSw); go_simp; (try with_reducible rfl))
      try simp only [Act.put, List.setIfInBounds_toArray, List.set_cons_zero, List.set_cons_succ]
      refine tk_ (i := 10) (oi := ⟨some 74, _, _, _, _, none⟩) (v := ?v111) rfl (by rfl) ?y111 (by with_reducible assumption) ?r111
      case y111 => (intro V_ hSw; (try dsimp only at hSw); go_simp; (try with_reducible rfl))
      try simp only [Act.put, List.setIfInBounds_toArray, List.set_cons_zero, List.set_cons_succ]
      refine tk_ (i := 11) (oi := ⟨some 75, _, _, _, _, none⟩) (v := ?v112) rfl (by rfl) ?y112 (by with_reducible assumption) ?r112
      case y112 => (intro V_ hSw; (try dsimp only at hSw); go_simp; (try with_reducible rfl))
      try simp only [Act.put, List.setIfInBounds_toArray, List.set_cons_zero, List.set_cons_succ]
      refine tk_ (i := 13) (oi := ⟨some 77, _, _, _, _, none⟩) (v := ?v113) rfl (by rfl) ?y113 (by with_reducible assumption) ?r113
      case y113 => (intro V_ hSw; (try dsimp only at hSw); go_simp; (try with_reducible rfl))
      try simp only [Act.put, List.setIfInBounds_toArray, List.set_cons_zero, List.set_cons_succ]
      refine wpAnyH_ready (rs := [12]) (by kernel_rfl) (by simp) (AllReadyH.cons (o := ⟨some 76, _, _, _, _, none⟩) rfl (fun K hK => ?_) AllReadyH.nil)
      obtain ⟨l0_, l1_, l2, l3, l4_⟩ := HLC.out wd HB.out
      clear l0_ l1_ l4_
      go_simp
      clear l2 l3
      refine hK.out _ _ hHeld (fun hHeld => ?_)
      clear hK K
      try simp only [Act.put, List.setIfInBounds_toArray, List.set_cons_zero, List.set_cons_succ]
      refine wpAnyH_ready (rs := [14]) (by kernel_rfl) (by simp) (AllReadyH.cons (o := ⟨some 78, _, _, _, _, none⟩) rfl (fun K hK => ?_) AllReadyH.nil)
      go_simp
      refine (rl_two y.at_ a _).mono ?_
      rintro e w8 ⟨rfl, hb⟩
      have HX_ := Aside0.mk (td_kept HX.out hb)
      clear HX
      have HX := Aside0.mk HX_.out
      clear HX_
      have HA_ := Aside0.mk (td_kept HA.out hb)
      clear HA
      have HA := Aside0.mk HA_.out
      clear HA_
      have HT_ := Aside0.mk (HT.out.step hb)
      clear HT
      have HT := Aside0.mk HT_.out
      clear HT_
      have HN_ := Aside0.mk (HN.out.trans (Tn.of_below hb))
      clear HN
      have HN := Aside0.mk HN_.out
      clear HN_
      have HB_ := Aside0.mk (below_step HB.out hb)
      clear HB
      have HB := Aside0.mk HB_.out
      clear HB_
      clear hb
      refine hK.out _ _ ⟨(blk_cell (td_kept HA.out (Below.refl _ _)) 0).trans rfl, (blk_cell (td_kept HA.out (Below.refl _ _)) 1).trans rfl, (blk_cell (td_kept HT.out.box (Below.refl _ _)) 2).trans rfl⟩ (fun hHeld => ?_)
      clear hK K
      try simp only [Act.put, List.setIfInBounds_toArray, List.set_cons_zero, List.set_cons_succ]
      refine tk_ (i := 15) (oi := ⟨some 79, _, _, _, _, none⟩) (v := ?v114) rfl (by rfl) ?y114 (by with_reducible assumption) ?r114
      case y114 => (intro V_ hSw; (try dsimp only at hSw); go_simp; (try with_reducible rfl))
      try simp only [Act.put, List.setIfInBounds_toArray, List.set_cons_zero, List.set_cons_succ]
      refine tk_ (i := 16) (oi := ⟨some 80, _, _, _, _, none⟩) (v := ?v115) rfl (by rfl) ?y115 (by with_reducible assumption) ?r115
      case y115 => (intro V_ hSw; (try dsimp only at hSw); go_simp; (try with_reducible rfl))
      try simp only [Act.put, List.setIfInBounds_toArray, List.set_cons_zero, List.set_cons_succ]
      refine wpAnyH_ready (rs := [17]) (by kernel_rfl) (by simp) (AllReadyH.cons (o := ⟨none, _, _, _, _, none⟩) rfl (fun K hK => ?_) AllReadyH.nil)
      obtain ⟨l0_, l1_, l2, l3, l4_⟩ := HLC.out w8 HB.out
      clear l0_ l1_ l4_
      obtain ⟨cur, hcur, hcs, hcn⟩ := rt_block HT.out.row
      have f2 := blk_frozen hcur (i * 5 + 2)
      have f3 := blk_frozen hcur (i * 5 + 3)
      obtain ⟨cc, hcl, hcM, hcc, hcf⟩ := Kd.R_elem HT.out.row z63 (i : Int) (by omega) (by have := HLT.out; omega)
      have ecc := k63_openM hcM
      rw [Int.toNat_natCast, HY.out] at ecc
      have hseg := Kd.R_seg (seg := [.int .i64 (tmx y.at_ a).1, .int .i64 (tmx y.at_ a).2]) (j := 2) (x' := ({ y with at_ := tmx y.at_ a } : Rd S24)) (okp := fun k_ => k_ ≠ r) HT.out.row (i : Int) (by omega) (by have := HLT.out; omega) hcl hcc (show 2 + 2 ≤ 5 by omega) (by rw [ecc]; exact k63_mkM _ _ _ _) (fun k_ h => ⟨trivial, h⟩)
      rw [Int.toNat_natCast] at hseg
      change Kd.R k63 67 (w8.setCells r (i * 5 + 2) _) _ _ _ _ ∧ w8.grownBy (w8.setCells r (i * 5 + 2) _) _ at hseg
      have HSG := Aside0.mk hseg
      have hfar : ∀ {b : Nat} {cs : Array Value} {q : TypeId}, w8.heap[b]? = some (.cells cs q (0, 0)) → q ≠ 67 → (w8.setCells r (i * 5 + 2) [.int .i64 (tmx y.at_ a).1, .int .i64 (tmx y.at_ a).2]).heap[b]? = some (.cells cs q (0, 0)) := fun {b cs q} hb hq => (setCells_far _ _ b (by
        rintro rfl
        rw [hb] at hcur
        injection hcur with hcur
        injection hcur with _ hcur
        exact hq hcur)).trans hb
      have hA' := hfar HA.out (by decide)
      have hG' := hfar HT.out.box (by decide)
      have HT' := Aside0.mk (show RtAt W0 (w8.setCells r (i * 5 + 2) [.int .i64 (tmx y.at_ a).1, .int .i64 (tmx y.at_ a).2]) g { t with l := t.l.set i { y with at_ := tmx y.at_ a } } from ⟨some ⟨r, 0, none⟩, c, HT.out.below.grown HSG.out.2 HT.out.below.size (fun k_ e => by injection e with e; subst e; exact Kd.R_base HT.out.row r rfl), HT.out.own, by rw [hG']; simp only [Td.rcells, List.length_set], by have q := HSG.out.1; simp only [List.length_set]; exact q⟩)
      have HN' := Aside0.mk (HN.out.trans (Tn.of_grown (g := some g) HSG.out.2 (Kd.R_base HT.out.row r rfl) hcur))
      have HA' := Aside0.mk hA'
      have HG' := Aside0.mk hG'
      clear hcur hcs hcn hcl hcM hcc hcf ecc hseg HSG hfar hA' hG'
      go_simp
      clear l2 l3 f2 f3
      have ew : (w8.setCell ⟨r, i * 5 + 2, none⟩ (.int .i64 (tmx y.at_ a).1)).setCell ⟨r, i * 5 + 3, none⟩ (.int .i64 (tmx y.at_ a).2) = w8.setCells r (i * 5 + 2) [.int .i64 (tmx y.at_ a).1, .int .i64 (tmx y.at_ a).2] := rfl
      rw [ew]
      clear ew
      generalize w8.setCells r (i * 5 + 2) _ = w9 at *
      refine hK.out _ _ ⟨(blk_cell HA'.out 0).trans rfl, (blk_cell HA'.out 1).trans rfl, (blk_cell HG'.out 2).trans rfl⟩ (fun hHeld => ?_)
      clear hK K
      try simp only [Act.put, List.setIfInBounds_toArray, List.set_cons_zero, List.set_cons_succ]
      refine wpAnyH_done (by kernel_rfl) ?_ _
      refine NoPanic.normal ?_
      clear hHeld
      go_wp2_with fail
      go_ret
      exact ⟨rfl, HT'.out, HN'.out⟩
end Go.Proofs.Ytaccfbpfennjkaa.PTideDoes

