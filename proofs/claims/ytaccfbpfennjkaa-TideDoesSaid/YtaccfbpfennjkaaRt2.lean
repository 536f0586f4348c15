/- The document's tide (typed by hand): New, Raise, Max. -/
import Derived.Test.YtaccfbpfennjkaaRt1
namespace Go.Proofs.Ytaccfbpfennjkaa.PTideDoes
open Go.RowKit Go.Proofs.YtaccfbpfennjkaaW.PrintWords Go.Proofs.YtaccfbpfennjkaaW.PrintLast Go.Proofs.YtaccfbpfennjkaaW.PrintMore
attribute [local go_sem] max2_int min2_int max_two min_two max_three min_three max_four min_four   -- for this text's walks alone
set_option linter.unusedVariables false
set_option linter.unusedSimpArgs false
theorem tk_ {P : Program} {ops : Array Oper} {Q : Exit → Act → World → Prop} {md : Region.Mode} {S : World → Prop} {i : Nat} {oi : Oper} {v : Value} {fuel : Nat} {listed : Array Bool} {a : Act} {w : World} (hi : ops[i]? = some oi)
    (hw : Region.wanted oi (yielded ops a.tmps) = true) (hy : ∀ w, S w → (execOp a.eval oi).run P w = .ok (.value v) w) (hS : S w)
    (h : wpAnyH P md ops Q S fuel (listed.setIfInBounds i true) (a.put oi.dst v) w)
    (hs : Region.noSelect ops = true := by kernel_rfl) (hf : Region.free md ops listed i = true := by kernel_rfl) (hr : (Region.ready md ops listed).contains i = true := by kernel_rfl)
    (hQ : ∀ c a w, Q (.panic c) (a.put oi.dst v) w → Q (.panic c) a w := by exact fun _ _ _ h => h) : wpAnyH P md ops Q S (fuel + 1) listed a w := wpAnyH_take hi hs hf hr hQ (.inl ⟨hw, hy⟩) hS h
theorem tk0_ {P : Program} {ops : Array Oper} {Q : Exit → Act → World → Prop} {md : Region.Mode} {S : World → Prop} {i : Nat} {oi : Oper} {fuel : Nat} {listed : Array Bool} {a : Act} {w : World} (hi : ops[i]? = some oi)
    (hw : Region.wanted oi (yielded ops a.tmps) = false) (hS : S w)
    (h : wpAnyH P md ops Q S fuel (listed.setIfInBounds i true) (a.put oi.dst undef) w)
    (hs : Region.noSelect ops = true := by kernel_rfl) (hf : Region.free md ops listed i = true := by kernel_rfl) (hr : (Region.ready md ops listed).contains i = true := by kernel_rfl)
    (hQ : ∀ c a w, Q (.panic c) (a.put oi.dst undef) w → Q (.panic c) a w := by exact fun _ _ _ h => h) : wpAnyH P md ops Q S (fuel + 1) listed a w := wpAnyH_take hi hs hf hr hQ (.inr ⟨hw, rfl⟩) hS h
set_option maxHeartbeats 16000000 in
set_option maxRecDepth 100000 in
theorem rt_new (a : Int × Int) (W : World) (ha : sok a = true) : Calls Try.prog 17 #[.agg #[.int .i64 a.1, .int .i64 a.2]] W fun e w' => ∃ g, e = .returned (.tuple #[.pointer (some ⟨g, 0, none⟩), .int .i64 0]) ∧ RtAt W w' g { low := a, l := [] } := by
  have HA := Aside0.mk ha
  clear ha
  go_enter Try.func17, Try.ntmps17
  go_upto_region 1 with fail
  generalize hw1 : World.alloc W _ = w1
  have hb : Below W.heap.size W w1 := by rw [← hw1]; exact td_alloc W _
  have HX := Aside0.mk (show w1.heap[W.heap.size]? = some (.cells #[.int .i64 a.1, .int .i64 a.2] 31 (0, 0)) from by rw [← hw1]; exact blk_new W _)
  clear hw1
  have HB := Aside0.mk hb
  clear hb
  generalize hn : W.heap.size = n at HX ⊢
  have x0 : w1.cell? ⟨n, 0, none⟩ = some (.int .i64 a.1) := (blk_cell HX.out 0).trans rfl
  have x1 : w1.cell? ⟨n, 1, none⟩ = some (.int .i64 a.2) := (blk_cell HX.out 1).trans rfl
  have HN := Aside0.mk hn
  clear hn
  go_wp2_with fail
  refine (rl_chk a _).mono ?_
  rintro e w2 ⟨rfl, hb2⟩
  rw [HA.out]
  have HX2 := Aside0.mk (td_kept HX.out hb2)
  have HB2 := Aside0.mk (below_step HB.out hb2)
  clear x0 x1 hb2
  have y0 : w2.cell? ⟨n, 0, none⟩ = some (.int .i64 a.1) := (blk_cell HX2.out 0).trans rfl
  have y1 : w2.cell? ⟨n, 1, none⟩ = some (.int .i64 a.2) := (blk_cell HX2.out 1).trans rfl
  go_wp2
  go_ret2
  exact ⟨_, rfl, none, 0, below_alloc HB2.out _, below_size HB2.out, blk_new _ _, Kd.R_nil _ _ _ _ _⟩
set_option maxHeartbeats 16000000 in
set_option maxRecDepth 100000 in
theorem rt_newbad (a : Int × Int) (W : World) (ha : sok a = false) : Calls Try.prog 17 #[.agg #[.int .i64 a.1, .int .i64 a.2]] W fun e w' => e = .returned (.tuple #[.pointer none, .int .i64 2]) ∧ Below W.heap.size W w' := by
  have HA := Aside0.mk ha
  clear ha
  go_enter Try.func17, Try.ntmps17
  go_upto_region 1 with fail
  generalize hw1 : World.alloc W _ = w1
  have hb : Below W.heap.size W w1 := by rw [← hw1]; exact td_alloc W _
  have HX := Aside0.mk (show w1.heap[W.heap.size]? = some (.cells #[.int .i64 a.1, .int .i64 a.2] 31 (0, 0)) from by rw [← hw1]; exact blk_new W _)
  clear hw1
  have HB := Aside0.mk hb
  clear hb
  generalize hn : W.heap.size = n at HX ⊢
  have x0 : w1.cell? ⟨n, 0, none⟩ = some (.int .i64 a.1) := (blk_cell HX.out 0).trans rfl
  have x1 : w1.cell? ⟨n, 1, none⟩ = some (.int .i64 a.2) := (blk_cell HX.out 1).trans rfl
  have HN := Aside0.mk hn
  clear hn
  go_wp2_with fail
  refine (rl_chk a _).mono ?_
  rintro e w2 ⟨rfl, hb2⟩
  rw [HA.out]
  have HB2 := Aside0.mk (below_step HB.out hb2)
  clear x0 x1 hb2
  go_wp2
  go_ret2
  exact ⟨rfl, HB2.out⟩
set_option maxHeartbeats 16000000 in
set_option maxRecDepth 100000 in
theorem rt_raise_bad (W0 W : World) (g : Nat) (t : Td S24) (a : Int × Int) (h : RtAt W0 W g t) (hlen : t.l.length ≤ 65) (ha : sok a = false) : Calls Try.prog 20 #[.pointer (some ⟨g, 0, none⟩), .agg #[.int .i64 a.1, .int .i64 a.2]] W (RtPost W0 W g t (.returned (.int .i64 2))) := by
  have HA := Aside0.mk ha
  have HLEN := Aside0.mk hlen
  have HT0 := Aside0.mk h
  clear h ha hlen
  go_enter Try.func20, Try.ntmps20
  go_upto_region 1 with fail
  generalize hw1 : World.alloc W _ = w1
  have hb : Below W.heap.size W w1 := by rw [← hw1]; exact td_alloc W _
  have HX := Aside0.mk (show w1.heap[W.heap.size]? = some (.cells #[.int .i64 a.1, .int .i64 a.2] 31 (0, 0)) from by rw [← hw1]; exact blk_new W _)
  clear hw1
  have HT := Aside0.mk (HT0.out.step hb)
  have HN := Aside0.mk (Tn.of_below (B := W0.heap.size) (g := some g) (ty := 67) hb)
  have HNE := Aside0.mk (show W.heap.size ≠ g from (Nat.ne_of_lt HT0.out.lt).symm)
  clear hb HT0
  generalize W.heap.size = n at HX HNE ⊢
  have x0 : w1.cell? ⟨n, 0, none⟩ = some (.int .i64 a.1) := (blk_cell HX.out 0).trans rfl
  have x1 : w1.cell? ⟨n, 1, none⟩ = some (.int .i64 a.2) := (blk_cell HX.out 1).trans rfl
  go_wp2_with fail
  refine (rl_chk a _).mono ?_
  rintro e w2 ⟨rfl, hb⟩
  rw [HA.out]
  clear x0 x1
  have HX_ := Aside0.mk (td_kept HX.out hb)
  clear HX
  have HX := Aside0.mk HX_.out
  clear HX_
  have HT_ := Aside0.mk (HT.out.step hb)
  clear HT
  have HT := Aside0.mk HT_.out
  clear HT_
  have HN_ := Aside0.mk (HN.out.trans (Tn.of_below hb))
  clear HN
  have HN := Aside0.mk HN_.out
  clear HN_
  clear hb
  go_wp2_with fail
  go_ret
  exact ⟨rfl, HT.out, HN.out⟩
set_option maxHeartbeats 16000000 in
set_option maxRecDepth 100000 in
theorem rt_raise (W0 W : World) (g : Nat) (t : Td S24) (a : Int × Int) (h : RtAt W0 W g t) (hlen : t.l.length ≤ 65) (ha : sok a = true) : Calls Try.prog 20 #[.pointer (some ⟨g, 0, none⟩), .agg #[.int .i64 a.1, .int .i64 a.2]] W (RtPost W0 W g (t.raise a) (.returned (.int .i64 0))) := by
  unfold Td.raise
  have HA := Aside0.mk ha
  have HLEN := Aside0.mk hlen
  have HT0 := Aside0.mk h
  clear h ha hlen
  go_enter Try.func20, Try.ntmps20
  go_upto_region 1 with fail
  generalize hw1 : World.alloc W _ = w1
  have hb : Below W.heap.size W w1 := by rw [← hw1]; exact td_alloc W _
  have HX := Aside0.mk (show w1.heap[W.heap.size]? = some (.cells #[.int .i64 a.1, .int .i64 a.2] 31 (0, 0)) from by rw [← hw1]; exact blk_new W _)
  clear hw1
  have HT := Aside0.mk (HT0.out.step hb)
  have HN := Aside0.mk (Tn.of_below (B := W0.heap.size) (g := some g) (ty := 67) hb)
  have HNE := Aside0.mk (show W.heap.size ≠ g from (Nat.ne_of_lt HT0.out.lt).symm)
  clear hb HT0
  generalize W.heap.size = n at HX HNE ⊢
  have x0 : w1.cell? ⟨n, 0, none⟩ = some (.int .i64 a.1) := (blk_cell HX.out 0).trans rfl
  have x1 : w1.cell? ⟨n, 1, none⟩ = some (.int .i64 a.2) := (blk_cell HX.out 1).trans rfl
  go_wp2_with fail
  refine (rl_chk a _).mono ?_
  rintro e w2 ⟨rfl, hb⟩
  rw [HA.out]
  clear x0 x1
  have HX_ := Aside0.mk (td_kept HX.out hb)
  clear HX
  have HX := Aside0.mk HX_.out
  clear HX_
  have HT_ := Aside0.mk (HT.out.step hb)
  clear HT
  have HT := Aside0.mk HT_.out
  clear HT_
  have HN_ := Aside0.mk (HN.out.trans (Tn.of_below hb))
  clear HN
  have HN := Aside0.mk HN_.out
  clear HN_
  clear hb
  go_upto_region 3 with fail
  obtain ⟨A, c, hT⟩ := HT.out
  clear HT
  have HT := Aside0.mk hT
  clear hT
  refine wp_region_noPanic ?_
  refine wp_region_held_drew (S := (fun V => V.cell? ⟨n, 0, none⟩ = some (.int .i64 a.1) ∧ V.cell? ⟨n, 1, none⟩ = some (.int .i64 a.2))) (by kernel_rfl) ⟨(blk_cell (td_kept HX.out (below_drew1 (Below.refl _ _))) 0).trans rfl, (blk_cell (td_kept HX.out (below_drew1 (Below.refl _ _))) 1).trans rfl⟩ (fun hHeld => ?_)
  generalize hwd : World.drew _ = wd at hHeld ⊢
  have hb : Below w2.heap.size w2 wd := by rw [← hwd]; exact below_drew1 (Below.refl _ _)
  clear hwd
  have HX_ := Aside0.mk (td_kept HX.out hb)
  clear HX
  have HX := Aside0.mk HX_.out
  clear HX_
  have HT_ := Aside0.mk (HT.out.step hb)
  clear HT
  have HT := Aside0.mk HT_.out
  clear HT_
  have HN_ := Aside0.mk (HN.out.trans (Tn.of_below hb))
  clear HN
  have HN := Aside0.mk HN_.out
  clear HN_
  clear hb
  refine tk_ (i := 0) (oi := ⟨some 8, _, _, _, _, none⟩) (v := ?v1) rfl (by rfl) ?y1 (by with_reducible assumption) ?r1
  case y1 => (intro V_ hSw; (try dsimp only at hSw); go_simp; (try with_reducible rfl))
  try simp only [Act.put, List.setIfInBounds_toArray, List.set_cons_zero, List.set_cons_succ]
  refine tk_ (i := 1) (oi := ⟨some 9, _, _, _, _, none⟩) (v := ?v2) rfl (by rfl) ?y2 (by with_reducible assumption) ?r2
  case y2 => (intro V_ hSw; (try dsimp only at hSw); go_simp; (try with_reducible rfl))
  try simp only [Act.put, List.setIfInBounds_toArray, List.set_cons_zero, List.set_cons_succ]
  refine tk_ (i := 2) (oi := ⟨some 10, _, _, _, _, none⟩) (v := ?v3) rfl (by rfl) ?y3 (by with_reducible assumption) ?r3
  case y3 => (intro V_ hSw; (try dsimp only at hSw); go_simp; (try with_reducible rfl))
  try simp only [Act.put, List.setIfInBounds_toArray, List.set_cons_zero, List.set_cons_succ]
  refine tk_ (i := 3) (oi := ⟨some 11, _, _, _, _, none⟩) (v := ?v4) rfl (by rfl) ?y4 (by with_reducible assumption) ?r4
  case y4 => (intro V_ hSw; (try dsimp only at hSw); go_simp; (try with_reducible rfl))
  try simp only [Act.put, List.setIfInBounds_toArray, List.set_cons_zero, List.set_cons_succ]
  refine tk_ (i := 5) (oi := ⟨some 13, _, _, _, _, none⟩) (v := ?v5) rfl (by rfl) ?y5 (by with_reducible assumption) ?r5
  case y5 => (intro V_ hSw; (try dsimp only at hSw); go_simp; (try with_reducible rfl))
  try simp only [Act.put, List.setIfInBounds_toArray, List.set_cons_zero, List.set_cons_succ]
  refine wpAnyH_ready (rs := [4]) (by kernel_rfl) (by simp) (AllReadyH.cons (o := ⟨some 12, _, _, _, _, none⟩) rfl (fun K hK => ?_) AllReadyH.nil)
  have q1 : wd.cell? ⟨g, 0, none⟩ = some (.int .i64 t.low.1) := (blk_cell HT.out.box 0).trans rfl
  have q2 : wd.cell? ⟨g, 1, none⟩ = some (.int .i64 t.low.2) := (blk_cell HT.out.box 1).trans rfl
  go_simp
  clear q1 q2
  refine hK.out _ _ hHeld (fun hHeld => ?_)
  clear hK K
  try simp only [Act.put, List.setIfInBounds_toArray, List.set_cons_zero, List.set_cons_succ]
  refine wpAnyH_ready (rs := [6]) (by kernel_rfl) (by simp) (AllReadyH.cons (o := ⟨some 14, _, _, _, _, none⟩) rfl (fun K hK => ?_) AllReadyH.nil)
  go_simp
  refine (rl_two t.low a _).mono ?_
  rintro e w4 ⟨rfl, hb⟩
  have HX_ := Aside0.mk (td_kept HX.out hb)
  clear HX
  have HX := Aside0.mk HX_.out
  clear HX_
  have HT_ := Aside0.mk (HT.out.step hb)
  clear HT
  have HT := Aside0.mk HT_.out
  clear HT_
  have HN_ := Aside0.mk (HN.out.trans (Tn.of_below hb))
  clear HN
  have HN := Aside0.mk HN_.out
  clear HN_
  clear hb
  refine hK.out _ _ ⟨(blk_cell (td_kept HX.out (Below.refl _ _)) 0).trans rfl, (blk_cell (td_kept HX.out (Below.refl _ _)) 1).trans rfl⟩ (fun hHeld => ?_)
  clear hK K
  try simp only [Act.put, List.setIfInBounds_toArray, List.set_cons_zero, List.set_cons_succ]
  refine tk_ (i := 7) (oi := ⟨some 15, _, _, _, _, none⟩) (v := ?v6) rfl (by rfl) ?y6 (by with_reducible assumption) ?r6
  case y6 => (intro V_ hSw; (try dsimp only at hSw); go_simp; (try with_reducible rfl))
  try simp only [Act.put, List.setIfInBounds_toArray, List.set_cons_zero, List.set_cons_succ]
  refine tk_ (i := 8) (oi := ⟨some 16, _, _, _, _, none⟩) (v := ?v7) rfl (by rfl) ?y7 (by with_reducible assumption) ?r7
  case y7 => (intro V_ hSw; (try dsimp only at hSw); go_simp; (try with_reducible rfl))
  try simp only [Act.put, List.setIfInBounds_toArray, List.set_cons_zero, List.set_cons_succ]
  refine wpAnyH_ready (rs := [9]) (by kernel_rfl) (by simp) (AllReadyH.cons (o := ⟨none, _, _, _, _, none⟩) rfl (fun K hK => ?_) AllReadyH.nil)
  have q1 : w4.cell? ⟨g, 0, none⟩ = some (.int .i64 t.low.1) := (blk_cell HT.out.box 0).trans rfl
  have q2 : w4.cell? ⟨g, 1, none⟩ = some (.int .i64 t.low.2) := (blk_cell HT.out.box 1).trans rfl
  have f1 := blk_frozen HT.out.box 0
  have f2 := blk_frozen HT.out.box 1
  go_simp
  clear q1 q2 f1 f2
  have HX5 := Aside0.mk (blk_far (blk_far HX.out (p := ⟨g, 0, none⟩) HNE.out (.int .i64 (tmx t.low a).1)) (p := ⟨g, 1, none⟩) HNE.out (.int .i64 (tmx t.low a).2))
  refine hK.out _ _ ⟨(blk_cell HX5.out 0).trans rfl, (blk_cell HX5.out 1).trans rfl⟩ (fun hHeld => ?_)
  clear hK K
  try simp only [Act.put, List.setIfInBounds_toArray, List.set_cons_zero, List.set_cons_succ]
  refine wpAnyH_done (by kernel_rfl) ?_ _
  refine NoPanic.normal ?_
  have HN5 := Aside0.mk ((HN.out.trans (Tn.set (i := 0) HT.out.own (.int .i64 (tmx t.low a).1))).trans (Tn.set (i := 1) HT.out.own (.int .i64 (tmx t.low a).2)))
  have HT5 := Aside0.mk (rt_setlow (tmx t.low a) HT.out)
  clear HX5 HX HT HN hHeld
  generalize hw5 : World.setCell _ _ _ = w5 at HT5 HN5 ⊢
  clear hw5
  go_wp2_with fail
  refine (rt_forget W0 w5 g _ ⟨_, _, HT5.out⟩ HLEN.out).mono ?_
  rintro e w6 ⟨rfl, hT6, hN6⟩
  have HT6 := Aside0.mk hT6
  have HN6 := Aside0.mk (HN5.out.trans hN6)
  clear hT6 hN6
  go_wp2_with fail
  go_ret
  exact ⟨rfl, HT6.out, HN6.out⟩
set_option maxHeartbeats 16000000 in
set_option maxRecDepth 100000 in
theorem rt_max_bad1 (W0 W : World) (g : Nat) (t : Td S24) (A : Option Addr) (c : Nat) (s : S24) (o : Int) (h : RtA W0 W g t A c) (hs : spErr s ≠ 0) : Calls Try.prog 22 #[.pointer (some ⟨g, 0, none⟩), .agg #[.string s.f0, .string s.f1], .int .i64 o] W (MaxPost W0 W g t A c ((0, 0), spErr s)) := by
  have HT0 := Aside0.mk h
  have e1 : (spErr s != 0) = true := bne_iff_ne.mpr hs
  have e2 : (spErr s == 0) = false := beq_eq_false_iff_ne.mpr hs
  clear h hs
  go_enter Try.func22, Try.ntmps22
  go_upto_region 1 with fail
  generalize hw1 : World.alloc (World.alloc W _) _ = w1
  have HB := Aside0.mk (show Below W.heap.size W w1 from by rw [← hw1]; exact below_alloc (td_alloc W _) _)
  have HX := Aside0.mk (show w1.heap[W.heap.size]? = some (.cells #[.string s.f0, .string s.f1] 24 (0, 0)) from by rw [← hw1]; exact td_kept (blk_new W _) (td_alloc _ _))
  have HZ := Aside0.mk (show w1.heap[W.heap.size + 1]? = some (.cells #[.int .i64 0, .int .i64 0] 31 (0, 0)) from by
    have h := blk_new (W.alloc (.cells #[.string s.f0, .string s.f1] 24)) (.cells #[.int .i64 0, .int .i64 0] 31)
    rw [show (W.alloc (.cells #[.string s.f0, .string s.f1] 24)).heap.size = W.heap.size + 1 from Array.size_push _, hw1] at h
    exact h)
  have HT := Aside0.mk (HT0.out.step HB.out)
  clear hw1
  obtain ⟨n, hn⟩ : ∃ n, W.heap.size = n := ⟨_, rfl⟩
  have HN := Aside0.mk hn
  rw [hn] at HX HZ ⊢
  clear hn
  have x0 : w1.cell? ⟨n, 0, none⟩ = some (.string s.f0) := (blk_cell HX.out 0).trans rfl
  have x1 : w1.cell? ⟨n, 1, none⟩ = some (.string s.f1) := (blk_cell HX.out 1).trans rfl
  go_wp2_with fail
  refine (rl_sp s _).mono ?_
  rintro e w3 ⟨rfl, hb⟩
  clear x0 x1
  have HX_ := Aside0.mk (td_kept HX.out hb)
  clear HX
  have HX := Aside0.mk HX_.out
  clear HX_
  have HZ_ := Aside0.mk (td_kept HZ.out hb)
  clear HZ
  have HZ := Aside0.mk HZ_.out
  clear HZ_
  have HT_ := Aside0.mk (HT.out.step hb)
  clear HT
  have HT := Aside0.mk HT_.out
  clear HT_
  have HB_ := Aside0.mk (below_step HB.out hb)
  clear HB
  have HB := Aside0.mk HB_.out
  clear HB_
  clear hb
  have z0 : w3.cell? ⟨n + 1, 0, none⟩ = some (.int .i64 0) := (blk_cell HZ.out 0).trans rfl
  have z1 : w3.cell? ⟨n + 1, 1, none⟩ = some (.int .i64 0) := (blk_cell HZ.out 1).trans rfl
  have f0 := blk_frozen HZ.out 0
  have f1 := blk_frozen HZ.out 1
  go_wp2_with fail
  have HGE := Aside0.mk (show W.heap.size ≤ n + 1 from by have := HN.out; omega)
  refine bodyPost_ret (results_ct rfl _ _ (n + 1) 31 #[.int .i64 0, .int .i64 0] (0, 0) _ rfl (blk_put (cs := #[.int .i64 0, .int .i64 0]) (blk_put (cs := #[.int .i64 0, .int .i64 0]) HZ.out 0 _ rfl) 1 _ rfl) Try.underlying31 rfl (by kernel_rfl)) rfl ?_
  exact ⟨rfl, Below.setCell (Below.setCell HB.out (p := ⟨n + 1, 0, none⟩) HGE.out _) (p := ⟨n + 1, 1, none⟩) HGE.out _⟩
set_option maxHeartbeats 16000000 in
set_option maxRecDepth 100000 in
theorem rt_max_bad2 (W0 W : World) (g : Nat) (t : Td S24) (A : Option Addr) (c : Nat) (s : S24) (o : Int) (h : RtA W0 W g t A c) (hs : spErr s = 0) (ho : own o = false) : Calls Try.prog 22 #[.pointer (some ⟨g, 0, none⟩), .agg #[.string s.f0, .string s.f1], .int .i64 o] W (MaxPost W0 W g t A c ((0, 0), 2)) := by
  have HT0 := Aside0.mk h
  have HS := Aside0.mk hs
  have HO_ := Aside0.mk ho
  clear h hs ho
  go_enter Try.func22, Try.ntmps22
  go_upto_region 1 with fail
  generalize hw1 : World.alloc (World.alloc W _) _ = w1
  have HB := Aside0.mk (show Below W.heap.size W w1 from by rw [← hw1]; exact below_alloc (td_alloc W _) _)
  have HX := Aside0.mk (show w1.heap[W.heap.size]? = some (.cells #[.string s.f0, .string s.f1] 24 (0, 0)) from by rw [← hw1]; exact td_kept (blk_new W _) (td_alloc _ _))
  have HZ := Aside0.mk (show w1.heap[W.heap.size + 1]? = some (.cells #[.int .i64 0, .int .i64 0] 31 (0, 0)) from by
    have h := blk_new (W.alloc (.cells #[.string s.f0, .string s.f1] 24)) (.cells #[.int .i64 0, .int .i64 0] 31)
    rw [show (W.alloc (.cells #[.string s.f0, .string s.f1] 24)).heap.size = W.heap.size + 1 from Array.size_push _, hw1] at h
    exact h)
  have HT := Aside0.mk (HT0.out.step HB.out)
  clear hw1
  obtain ⟨n, hn⟩ : ∃ n, W.heap.size = n := ⟨_, rfl⟩
  have HN := Aside0.mk hn
  rw [hn] at HX HZ ⊢
  clear hn
  have x0 : w1.cell? ⟨n, 0, none⟩ = some (.string s.f0) := (blk_cell HX.out 0).trans rfl
  have x1 : w1.cell? ⟨n, 1, none⟩ = some (.string s.f1) := (blk_cell HX.out 1).trans rfl
  go_wp2_with fail
  refine (rl_sp s _).mono ?_
  rintro e w3 ⟨rfl, hb⟩
  clear x0 x1
  have HX_ := Aside0.mk (td_kept HX.out hb)
  clear HX
  have HX := Aside0.mk HX_.out
  clear HX_
  have HZ_ := Aside0.mk (td_kept HZ.out hb)
  clear HZ
  have HZ := Aside0.mk HZ_.out
  clear HZ_
  have HT_ := Aside0.mk (HT.out.step hb)
  clear HT
  have HT := Aside0.mk HT_.out
  clear HT_
  have HB_ := Aside0.mk (below_step HB.out hb)
  clear HB
  have HB := Aside0.mk HB_.out
  clear HB_
  clear hb
  rw [HS.out]
  go_wp2_with fail
  refine (rl_own o _).mono ?_
  rintro e w4 ⟨rfl, hb⟩
  rw [HO_.out]
  have HX_ := Aside0.mk (td_kept HX.out hb)
  clear HX
  have HX := Aside0.mk HX_.out
  clear HX_
  have HZ_ := Aside0.mk (td_kept HZ.out hb)
  clear HZ
  have HZ := Aside0.mk HZ_.out
  clear HZ_
  have HT_ := Aside0.mk (HT.out.step hb)
  clear HT
  have HT := Aside0.mk HT_.out
  clear HT_
  have HB_ := Aside0.mk (below_step HB.out hb)
  clear HB
  have HB := Aside0.mk HB_.out
  clear HB_
  clear hb
  have z0 : w4.cell? ⟨n + 1, 0, none⟩ = some (.int .i64 0) := (blk_cell HZ.out 0).trans rfl
  have z1 : w4.cell? ⟨n + 1, 1, none⟩ = some (.int .i64 0) := (blk_cell HZ.out 1).trans rfl
  have f0 := blk_frozen HZ.out 0
  have f1 := blk_frozen HZ.out 1
  go_wp2_with fail
  have HGE := Aside0.mk (show W.heap.size ≤ n + 1 from by have := HN.out; omega)
  refine bodyPost_ret (results_ct rfl _ _ (n + 1) 31 #[.int .i64 0, .int .i64 0] (0, 0) _ rfl (blk_put (cs := #[.int .i64 0, .int .i64 0]) (blk_put (cs := #[.int .i64 0, .int .i64 0]) HZ.out 0 _ rfl) 1 _ rfl) Try.underlying31 rfl (by kernel_rfl)) rfl ?_
  exact ⟨rfl, Below.setCell (Below.setCell HB.out (p := ⟨n + 1, 0, none⟩) HGE.out _) (p := ⟨n + 1, 1, none⟩) HGE.out _⟩
set_option maxHeartbeats 16000000 in
set_option maxRecDepth 100000 in
theorem rt_max_ok (W0 W : World) (g : Nat) (t : Td S24) (A : Option Addr) (c : Nat) (s : S24) (o : Int) (h : RtA W0 W g t A c) (hs : spErr s = 0) (ho : own o = true) : Calls Try.prog 22 #[.pointer (some ⟨g, 0, none⟩), .agg #[.string s.f0, .string s.f1], .int .i64 o] W (MaxPost W0 W g t A c (Td.max (asks s o) t.low t.l, 0)) := by
  have HT0 := Aside0.mk h
  have HS := Aside0.mk hs
  have HO_ := Aside0.mk ho
  clear h hs ho
  go_enter Try.func22, Try.ntmps22
  go_upto_region 1 with fail
  generalize hw1 : World.alloc (World.alloc W _) _ = w1
  have HB := Aside0.mk (show Below W.heap.size W w1 from by rw [← hw1]; exact below_alloc (td_alloc W _) _)
  have HX := Aside0.mk (show w1.heap[W.heap.size]? = some (.cells #[.string s.f0, .string s.f1] 24 (0, 0)) from by rw [← hw1]; exact td_kept (blk_new W _) (td_alloc _ _))
  have HZ := Aside0.mk (show w1.heap[W.heap.size + 1]? = some (.cells #[.int .i64 0, .int .i64 0] 31 (0, 0)) from by
    have h := blk_new (W.alloc (.cells #[.string s.f0, .string s.f1] 24)) (.cells #[.int .i64 0, .int .i64 0] 31)
    rw [show (W.alloc (.cells #[.string s.f0, .string s.f1] 24)).heap.size = W.heap.size + 1 from Array.size_push _, hw1] at h
    exact h)
  have HT := Aside0.mk (HT0.out.step HB.out)
  clear hw1
  obtain ⟨n, hn⟩ : ∃ n, W.heap.size = n := ⟨_, rfl⟩
  have HN := Aside0.mk hn
  rw [hn] at HX HZ ⊢
  clear hn
  have x0 : w1.cell? ⟨n, 0, none⟩ = some (.string s.f0) := (blk_cell HX.out 0).trans rfl
  have x1 : w1.cell? ⟨n, 1, none⟩ = some (.string s.f1) := (blk_cell HX.out 1).trans rfl
  go_wp2_with fail
  refine (rl_sp s _).mono ?_
  rintro e w3 ⟨rfl, hb⟩
  clear x0 x1
  have HX_ := Aside0.mk (td_kept HX.out hb)
  clear HX
  have HX := Aside0.mk HX_.out
  clear HX_
  have HZ_ := Aside0.mk (td_kept HZ.out hb)
  clear HZ
  have HZ := Aside0.mk HZ_.out
  clear HZ_
  have HT_ := Aside0.mk (HT.out.step hb)
  clear HT
  have HT := Aside0.mk HT_.out
  clear HT_
  have HB_ := Aside0.mk (below_step HB.out hb)
  clear HB
  have HB := Aside0.mk HB_.out
  clear HB_
  clear hb
  rw [HS.out]
  go_wp2_with fail
  refine (rl_own o _).mono ?_
  rintro e w4 ⟨rfl, hb⟩
  rw [HO_.out]
  have HX_ := Aside0.mk (td_kept HX.out hb)
  clear HX
  have HX := Aside0.mk HX_.out
  clear HX_
  have HZ_ := Aside0.mk (td_kept HZ.out hb)
  clear HZ
  have HZ := Aside0.mk HZ_.out
  clear HZ_
  have HT_ := Aside0.mk (HT.out.step hb)
  clear HT
  have HT := Aside0.mk HT_.out
  clear HT_
  have HB_ := Aside0.mk (below_step HB.out hb)
  clear HB
  have HB := Aside0.mk HB_.out
  clear HB_
  clear hb
  have q1 : w4.cell? ⟨g, 0, none⟩ = some (.int .i64 t.low.1) := (blk_cell HT.out.box 0).trans rfl
  have q2 : w4.cell? ⟨g, 1, none⟩ = some (.int .i64 t.low.2) := (blk_cell HT.out.box 1).trans rfl
  go_upto_region 7 with fail
  clear q1 q2
  generalize hw5 : World.alloc w4 _ = w5
  have hb : Below w4.heap.size w4 w5 := by rw [← hw5]; exact td_alloc w4 _
  have HO := Aside0.mk (show w5.heap[w4.heap.size]? = some (.cells #[.int .i64 t.low.1, .int .i64 t.low.2] 31 (0, 0)) from by rw [← hw5]; exact blk_new w4 _)
  have HNO := Aside0.mk (show W.heap.size ≤ w4.heap.size from HB.out.size)
  have HNG := Aside0.mk (show g ≠ w4.heap.size from Nat.ne_of_lt HT.out.lt)
  have HNZ := Aside0.mk (show n + 1 ≠ w4.heap.size from Nat.ne_of_lt (blk_lt HZ.out))
  have HNX := Aside0.mk (show n ≠ w4.heap.size from Nat.ne_of_lt (blk_lt HX.out))
  clear hw5
  have HX_ := Aside0.mk (td_kept HX.out hb)
  clear HX
  have HX := Aside0.mk HX_.out
  clear HX_
  have HZ_ := Aside0.mk (td_kept HZ.out hb)
  clear HZ
  have HZ := Aside0.mk HZ_.out
  clear HZ_
  have HT_ := Aside0.mk (HT.out.step hb)
  clear HT
  have HT := Aside0.mk HT_.out
  clear HT_
  have HB_ := Aside0.mk (below_step HB.out hb)
  clear HB
  have HB := Aside0.mk HB_.out
  clear HB_
  clear hb
  generalize w4.heap.size = m4 at HO HNO HNG HNZ HNX ⊢
  have HW0 := Aside0.mk (show W0.heap.size ≤ m4 from Nat.le_trans HT0.out.below.size HNO.out)
  have HLM := Aside0.mk (Kd.C_max (Kd.R_reads' HT.out.row).2.2)
  have HROW0 := Aside0.mk HT0.out.row
  go_wp2_with fail
  go_loopg [10] (t.l.length + 1) (fun gg s34 wr => ∃ (i : Nat) (m : Int × Int), s34 = .int .i64 (i : Int) ∧ Aside0 (i + gg = t.l.length + 1) ∧ Aside0 (i ≤ t.l.length) ∧ Aside0 (Td.max (asks s o) m (t.l.drop i) = Td.max (asks s o) t.low t.l) ∧ Aside0 (RtA W0 wr g t A c) ∧ Aside0 (Below W.heap.size W wr) ∧ Aside0 (wr.heap[n]? = some (.cells #[.string s.f0, .string s.f1] 24 (0, 0))) ∧ Aside0 (wr.heap[n + 1]? = some (.cells #[.int .i64 0, .int .i64 0] 31 (0, 0))) ∧ Aside0 (wr.heap[m4]? = some (.cells #[.int .i64 m.1, .int .i64 m.2] 31 (0, 0))))
  case atStart => exact ⟨0, t.low, rfl, ⟨by omega⟩, ⟨Nat.zero_le _⟩, ⟨rfl⟩, HT, HB, HX, HZ, HO⟩
  case round =>
    clear HT HB HX HZ HO
    obtain ⟨i, m, rfl, HI, HIL, HM, HT, HB, HX, HZ, HO⟩ := hrel
    by_cases hlt : i < t.l.length
    case neg =>
      have d1 : decide ((i : Int) < (t.l.length : Int)) = false := decide_eq_false (by omega)
      have d1n : decide (i < t.l.length) = false := decide_eq_false hlt
      have g2 : wr.cell? ⟨g, 2, none⟩ = some (.slice A t.l.length c) := (blk_cell HT.out.box 2).trans rfl
      have ei : i = t.l.length := by have := HIL.out; omega
      have hm := HM.out
      rw [ei, List.drop_length] at hm
      have HMM := Aside0.mk (show m = Td.max (asks s o) t.low t.l from hm)
      clear hm ei hlt
      have z0 : wr.cell? ⟨n + 1, 0, none⟩ = some (.int .i64 0) := (blk_cell HZ.out 0).trans rfl
      have z1 : wr.cell? ⟨n + 1, 1, none⟩ = some (.int .i64 0) := (blk_cell HZ.out 1).trans rfl
      have f0 := blk_frozen HZ.out 0
      have f1 := blk_frozen HZ.out 1
      have o0 : wr.cell? ⟨m4, 0, none⟩ = some (.int .i64 m.1) := (blk_cell HO.out 0).trans rfl
      have o1 : wr.cell? ⟨m4, 1, none⟩ = some (.int .i64 m.2) := (blk_cell HO.out 1).trans rfl
      go_wp2_with fail
      have HGE := Aside0.mk (show W.heap.size ≤ n + 1 from by have := HN.out; omega)
      refine bodyPost_ret (results_ct rfl _ _ (n + 1) 31 #[.int .i64 m.1, .int .i64 m.2] (0, 0) _ rfl (blk_put (cs := #[.int .i64 m.1, .int .i64 0]) (blk_put (cs := #[.int .i64 0, .int .i64 0]) HZ.out 0 _ rfl) 1 _ rfl) Try.underlying31 rfl (by kernel_rfl)) rfl ?_
      exact ⟨by rw [← HMM.out]; rfl, Below.setCell (Below.setCell HB.out (p := ⟨n + 1, 0, none⟩) HGE.out _) (p := ⟨n + 1, 1, none⟩) HGE.out _⟩
    case pos =>
      have d1 : decide ((i : Int) < (t.l.length : Int)) = true := decide_eq_true (by omega)
      have d1n : decide (i < t.l.length) = true := decide_eq_true hlt
      have hmd := max_drop (p := asks s o) (m := m) hlt
      obtain ⟨ad, ea, y, hy, hld⟩ := ld_T63 (Kd.R_reads' HROW0.out).2.2 i hlt
      cases ea
      rw [hy] at hmd
      have HMD := Aside0.mk hmd
      have HLC := Aside0.mk (fun (V : World) (hV : Below W.heap.size W V) => (show V.cell? (ad.add (i * 5)) = some (.string y.s.f0) ∧ V.cell? ⟨(ad.add (i * 5)).block, (ad.add (i * 5)).off + 1, none⟩ = some (.string y.s.f1) ∧ V.cell? ⟨(ad.add (i * 5)).block, (ad.add (i * 5)).off + 2, none⟩ = some (.int .i64 y.at_.1) ∧ V.cell? ⟨(ad.add (i * 5)).block, (ad.add (i * 5)).off + 3, none⟩ = some (.int .i64 y.at_.2) ∧ V.cell? ⟨(ad.add (i * 5)).block, (ad.add (i * 5)).off + 4, none⟩ = some (.int .i64 y.o) from ⟨by have q := (hV.cell (World.block_lt_of_cell? W _ (hld 0 _ rfl))).trans (hld 0 _ rfl); exact q, by have q := (hV.cell (World.block_lt_of_cell? W _ (hld 1 _ rfl))).trans (hld 1 _ rfl); rw [add_field _ _ 1 (by omega)] at q; exact q, by have q := (hV.cell (World.block_lt_of_cell? W _ (hld 2 _ rfl))).trans (hld 2 _ rfl); rw [add_field _ _ 2 (by omega)] at q; exact q, by have q := (hV.cell (World.block_lt_of_cell? W _ (hld 3 _ rfl))).trans (hld 3 _ rfl); rw [add_field _ _ 3 (by omega)] at q; exact q, by have q := (hV.cell (World.block_lt_of_cell? W _ (hld 4 _ rfl))).trans (hld 4 _ rfl); rw [add_field _ _ 4 (by omega)] at q; exact q⟩))
      have HLT := Aside0.mk hlt
      have p0 := eq_true (show (0 : Int) ≤ (i : Int) by omega)
      have q0 := eq_true (show (i : Int) < (t.l.length : Int) by omega)
      have q0n := eq_true hlt
      have hwi : Go.RowKit.wrap64 ((i : Int) + 1) = ((i + 1 : Nat) : Int) := by
        have := HLM.out
        unfold Go.RowKit.wrap64
        omega
      have HWI := Aside0.mk hwi
      have HWI2 := Aside0.mk ((i64_w ((i : Int) + 1)).trans hwi)
      clear hwi
      clear hy hmd hld hlt
      have g2 : wr.cell? ⟨g, 2, none⟩ = some (.slice (some ad) t.l.length c) := (blk_cell HT.out.box 2).trans rfl
      obtain ⟨b, hb⟩ : ∃ b, meets y.s s = b := ⟨_, rfl⟩
      have HMB := Aside0.mk hb
      clear hb
      cases b
      case false =>
        have HAS := Aside0.mk (show asks s o y = false from by unfold asks; rw [HMB.out]; rfl)
        go_upto_region 10 with fail
        clear g2
        refine wp_region_noPanic ?_
        refine wp_region_held_drew (S := (fun V => (V.cell? (ad.add (i * 5)) = some (.string y.s.f0) ∧ V.cell? ⟨(ad.add (i * 5)).block, (ad.add (i * 5)).off + 1, none⟩ = some (.string y.s.f1) ∧ V.cell? ⟨(ad.add (i * 5)).block, (ad.add (i * 5)).off + 2, none⟩ = some (.int .i64 y.at_.1) ∧ V.cell? ⟨(ad.add (i * 5)).block, (ad.add (i * 5)).off + 3, none⟩ = some (.int .i64 y.at_.2) ∧ V.cell? ⟨(ad.add (i * 5)).block, (ad.add (i * 5)).off + 4, none⟩ = some (.int .i64 y.o)) ∧ V.cell? ⟨g, 2, none⟩ = some (.slice (some ad) t.l.length c) ∧ V.cell? ⟨n, 0, none⟩ = some (.string s.f0) ∧ V.cell? ⟨n, 1, none⟩ = some (.string s.f1))) (by kernel_rfl) ⟨HLC.out _ (below_step HB.out (below_drew1 (Below.refl _ _))), (blk_cell (td_kept HT.out.box (below_drew1 (Below.refl _ _))) 2).trans rfl, (blk_cell (td_kept HX.out (below_drew1 (Below.refl _ _))) 0).trans rfl, (blk_cell (td_kept HX.out (below_drew1 (Below.refl _ _))) 1).trans rfl⟩ (fun hHeld => ?_)
        generalize hwd : World.drew _ = wd at hHeld ⊢
        have hb : Below wr.heap.size wr wd := by rw [← hwd]; exact below_drew1 (Below.refl _ _)
        clear hwd
        have HX_ := Aside0.mk (td_kept HX.out hb)
        clear HX
        have HX := Aside0.mk HX_.out
        clear HX_
        have HZ_ := Aside0.mk (td_kept HZ.out hb)
        clear HZ
        have HZ := Aside0.mk HZ_.out
        clear HZ_
        have HT_ := Aside0.mk (HT.out.step hb)
        clear HT
        have HT := Aside0.mk HT_.out
        clear HT_
        have HB_ := Aside0.mk (below_step HB.out hb)
        clear HB
        have HB := Aside0.mk HB_.out
        clear HB_
        have HO_ := Aside0.mk (td_kept HO.out hb)
        clear HO
        have HO := Aside0.mk HO_.out
        clear HO_
        clear hb
        refine tk_ (i := 0) (oi := ⟨some 34, _, _, _, _, none⟩) (v := ?v8) rfl (by rfl) ?y8 (by with_reducible assumption) ?r8
        case y8 => (intro V_ hSw; (try dsimp only at hSw); go_simp; (try with_reducible rfl))
        try simp only [Act.put, List.setIfInBounds_toArray, List.set_cons_zero, List.set_cons_succ]
        refine tk_ (i := 1) (oi := ⟨some 35, _, _, _, _, none⟩) (v := ?v9) rfl (by rfl) ?y9 (by with_reducible assumption) ?r9
        case y9 => (intro V_ hSw; (try dsimp only at hSw); go_simp; (try with_reducible rfl))
        try simp only [Act.put, List.setIfInBounds_toArray, List.set_cons_zero, List.set_cons_succ]
        refine tk_ (i := 2) (oi := ⟨some 36, _, _, _, _, none⟩) (v := ?v10) rfl (by rfl) ?y10 (by with_reducible assumption) ?r10
        case y10 => (intro V_ hSw; (try dsimp only at hSw); go_simp; (try with_reducible rfl))
        try simp only [Act.put, List.setIfInBounds_toArray, List.set_cons_zero, List.set_cons_succ]
        refine tk_ (i := 3) (oi := ⟨some 37, _, _, _, _, none⟩) (v := ?v11) rfl (by rfl) ?y11 (by with_reducible assumption) ?r11
        case y11 => (intro V_ hSw; (try dsimp only at hSw); go_simp; (try with_reducible rfl))
        try simp only [Act.put, List.setIfInBounds_toArray, List.set_cons_zero, List.set_cons_succ]
        refine tk_ (i := 4) (oi := ⟨some 38, _, _, _, _, none⟩) (v := ?v12) rfl (by rfl) ?y12 (by with_reducible assumption) ?r12
        case y12 => (intro V_ hSw; (try dsimp only at hSw); go_simp; (try with_reducible rfl))
        try simp only [Act.put, List.setIfInBounds_toArray, List.set_cons_zero, List.set_cons_succ]
        refine tk_ (i := 5) (oi := ⟨some 39, _, _, _, _, none⟩) (v := ?v13) rfl (by rfl) ?y13 (by with_reducible assumption) ?r13
        case y13 => (intro V_ hSw; (try dsimp only at hSw); go_simp; (try with_reducible rfl))
        try simp only [Act.put, List.setIfInBounds_toArray, List.set_cons_zero, List.set_cons_succ]
        refine tk_ (i := 6) (oi := ⟨some 40, _, _, _, _, none⟩) (v := ?v14) rfl (by rfl) ?y14 (by with_reducible assumption) ?r14
        case y14 => (intro V_ hSw; (try dsimp only at hSw); go_simp; (try with_reducible rfl))
        try simp only [Act.put, List.setIfInBounds_toArray, List.set_cons_zero, List.set_cons_succ]
        refine tk_ (i := 7) (oi := ⟨some 41, _, _, _, _, none⟩) (v := ?v15) rfl (by rfl) ?y15 (by with_reducible assumption) ?r15
        case y15 => (intro V_ hSw; (try dsimp only at hSw); go_simp; (try with_reducible rfl))
        try simp only [Act.put, List.setIfInBounds_toArray, List.set_cons_zero, List.set_cons_succ]
        refine tk_ (i := 8) (oi := ⟨some 42, _, _, _, _, none⟩) (v := ?v16) rfl (by rfl) ?y16 (by with_reducible assumption) ?r16
        case y16 => (intro V_ hSw; (try dsimp only at hSw); go_simp; (try with_reducible rfl))
        try simp only [Act.put, List.setIfInBounds_toArray, List.set_cons_zero, List.set_cons_succ]
        refine wpAnyH_ready (rs := [9]) (by kernel_rfl) (by simp) (AllReadyH.cons (o := ⟨some 43, _, _, _, _, none⟩) rfl (fun K hK => ?_) AllReadyH.nil)
        go_simp
        refine (rl_meets y.s s _).mono ?_
        rintro e w7 ⟨rfl, hb⟩
        have HX_ := Aside0.mk (td_kept HX.out hb)
        clear HX
        have HX := Aside0.mk HX_.out
        clear HX_
        have HZ_ := Aside0.mk (td_kept HZ.out hb)
        clear HZ
        have HZ := Aside0.mk HZ_.out
        clear HZ_
        have HT_ := Aside0.mk (HT.out.step hb)
        clear HT
        have HT := Aside0.mk HT_.out
        clear HT_
        have HB_ := Aside0.mk (below_step HB.out hb)
        clear HB
        have HB := Aside0.mk HB_.out
        clear HB_
        have HO_ := Aside0.mk (td_kept HO.out hb)
        clear HO
        have HO := Aside0.mk HO_.out
        clear HO_
        clear hb
        rw [HMB.out]
        refine hK.out _ _ ⟨HLC.out _ (below_step HB.out (Below.refl _ _)), (blk_cell (td_kept HT.out.box (Below.refl _ _)) 2).trans rfl, (blk_cell (td_kept HX.out (Below.refl _ _)) 0).trans rfl, (blk_cell (td_kept HX.out (Below.refl _ _)) 1).trans rfl⟩ (fun hHeld => ?_)
        clear hK K
        try simp only [Act.put, List.setIfInBounds_toArray, List.set_cons_zero, List.set_cons_succ]
        refine tk_ (i := 10) (oi := ⟨some 44, _, _, _, _, none⟩) (v := ?v17) rfl (by rfl) ?y17 (by with_reducible assumption) ?r17
        case y17 => (intro V_ hSw; (try dsimp only at hSw); go_simp; (try with_reducible rfl))
        try simp only [Act.put, List.setIfInBounds_toArray, List.set_cons_zero, List.set_cons_succ]
        refine tk0_ (i := 11) (oi := ⟨some 45, _, _, _, _, some (10, true)⟩) rfl (by rfl) (by with_reducible assumption) ?_
        try simp only [Act.put, List.setIfInBounds_toArray, List.set_cons_zero, List.set_cons_succ]
        refine tk0_ (i := 12) (oi := ⟨some 46, _, _, _, _, some (10, true)⟩) rfl (by rfl) (by with_reducible assumption) ?_
        try simp only [Act.put, List.setIfInBounds_toArray, List.set_cons_zero, List.set_cons_succ]
        refine tk0_ (i := 13) (oi := ⟨some 47, _, _, _, _, some (10, true)⟩) rfl (by rfl) (by with_reducible assumption) ?_
        try simp only [Act.put, List.setIfInBounds_toArray, List.set_cons_zero, List.set_cons_succ]
        refine tk0_ (i := 14) (oi := ⟨some 48, _, _, _, _, some (13, false)⟩) rfl (by rfl) (by with_reducible assumption) ?_
        try simp only [Act.put, List.setIfInBounds_toArray, List.set_cons_zero, List.set_cons_succ]
        refine tk0_ (i := 15) (oi := ⟨some 49, _, _, _, _, some (13, false)⟩) rfl (by rfl) (by with_reducible assumption) ?_
        try simp only [Act.put, List.setIfInBounds_toArray, List.set_cons_zero, List.set_cons_succ]
        refine tk0_ (i := 16) (oi := ⟨some 50, _, _, _, _, some (13, false)⟩) rfl (by rfl) (by with_reducible assumption) ?_
        try simp only [Act.put, List.setIfInBounds_toArray, List.set_cons_zero, List.set_cons_succ]
        refine tk0_ (i := 17) (oi := ⟨some 51, _, _, _, _, some (13, false)⟩) rfl (by rfl) (by with_reducible assumption) ?_
        try simp only [Act.put, List.setIfInBounds_toArray, List.set_cons_zero, List.set_cons_succ]
        refine tk0_ (i := 18) (oi := ⟨some 52, _, _, _, _, some (13, false)⟩) rfl (by rfl) (by with_reducible assumption) ?_
        try simp only [Act.put, List.setIfInBounds_toArray, List.set_cons_zero, List.set_cons_succ]
        refine tk0_ (i := 19) (oi := ⟨some 53, _, _, _, _, some (13, false)⟩) rfl (by rfl) (by with_reducible assumption) ?_
        try simp only [Act.put, List.setIfInBounds_toArray, List.set_cons_zero, List.set_cons_succ]
        refine tk0_ (i := 20) (oi := ⟨some 54, _, _, _, _, some (13, false)⟩) rfl (by rfl) (by with_reducible assumption) ?_
        try simp only [Act.put, List.setIfInBounds_toArray, List.set_cons_zero, List.set_cons_succ]
        refine tk0_ (i := 21) (oi := ⟨some 55, _, _, _, _, some (13, false)⟩) rfl (by rfl) (by with_reducible assumption) ?_
        try simp only [Act.put, List.setIfInBounds_toArray, List.set_cons_zero, List.set_cons_succ]
        refine tk0_ (i := 22) (oi := ⟨some 56, _, _, _, _, some (13, false)⟩) rfl (by rfl) (by with_reducible assumption) ?_
        try simp only [Act.put, List.setIfInBounds_toArray, List.set_cons_zero, List.set_cons_succ]
        refine tk0_ (i := 23) (oi := ⟨some 57, _, _, _, _, some (13, false)⟩) rfl (by rfl) (by with_reducible assumption) ?_
        try simp only [Act.put, List.setIfInBounds_toArray, List.set_cons_zero, List.set_cons_succ]
        refine tk0_ (i := 24) (oi := ⟨some 58, _, _, _, _, some (10, true)⟩) rfl (by rfl) (by with_reducible assumption) ?_
        try simp only [Act.put, List.setIfInBounds_toArray, List.set_cons_zero, List.set_cons_succ]
        refine tk_ (i := 25) (oi := ⟨some 59, _, _, _, _, none⟩) (v := ?v32) rfl (by rfl) ?y32 (by with_reducible assumption) ?r32
        case y32 => (intro V_ hSw; (try dsimp only at hSw); go_simp; (try with_reducible rfl))
        try simp only [Act.put, List.setIfInBounds_toArray, List.set_cons_zero, List.set_cons_succ]
        refine wpAnyH_done (by kernel_rfl) ?_ _
        refine NoPanic.normal ?_
        clear hHeld
        go_wp2_with fail
        go_roundg (t.l.length - i)
        case measure => have h1 := HI.out; have h2 := HLT.out; omega
        case rel => exact ⟨i + 1, m, congrArg (Value.int .i64) (by first | exact HWI.out | exact HWI2.out | rfl | omega), ⟨by have h1 := HI.out; have h2 := HLT.out; omega⟩, ⟨HLT.out⟩, ⟨by have h1 := HMD.out; rw [if_neg (by rw [HAS.out]; exact Bool.false_ne_true)] at h1; exact h1.symm.trans HM.out⟩, HT, HB, HX, HZ, HO⟩
      case true =>
        by_cases ho : o = 0
        case pos =>
          have e0 : (o == 0) = true := beq_iff_eq.mpr ho
          have HAS := Aside0.mk (show asks s o y = true from by unfold asks; rw [HMB.out, e0]; rfl)
          clear ho
          go_upto_region 10 with fail
          clear g2
          refine wp_region_noPanic ?_
          refine wp_region_held_drew (S := (fun V => (V.cell? (ad.add (i * 5)) = some (.string y.s.f0) ∧ V.cell? ⟨(ad.add (i * 5)).block, (ad.add (i * 5)).off + 1, none⟩ = some (.string y.s.f1) ∧ V.cell? ⟨(ad.add (i * 5)).block, (ad.add (i * 5)).off + 2, none⟩ = some (.int .i64 y.at_.1) ∧ V.cell? ⟨(ad.add (i * 5)).block, (ad.add (i * 5)).off + 3, none⟩ = some (.int .i64 y.at_.2) ∧ V.cell? ⟨(ad.add (i * 5)).block, (ad.add (i * 5)).off + 4, none⟩ = some (.int .i64 y.o)) ∧ V.cell? ⟨g, 2, none⟩ = some (.slice (some ad) t.l.length c) ∧ V.cell? ⟨n, 0, none⟩ = some (.string s.f0) ∧ V.cell? ⟨n, 1, none⟩ = some (.string s.f1))) (by kernel_rfl) ⟨HLC.out _ (below_step HB.out (below_drew1 (Below.refl _ _))), (blk_cell (td_kept HT.out.box (below_drew1 (Below.refl _ _))) 2).trans rfl, (blk_cell (td_kept HX.out (below_drew1 (Below.refl _ _))) 0).trans rfl, (blk_cell (td_kept HX.out (below_drew1 (Below.refl _ _))) 1).trans rfl⟩ (fun hHeld => ?_)
          generalize hwd : World.drew _ = wd at hHeld ⊢
          have hb : Below wr.heap.size wr wd := by rw [← hwd]; exact below_drew1 (Below.refl _ _)
          clear hwd
          have HX_ := Aside0.mk (td_kept HX.out hb)
          clear HX
          have HX := Aside0.mk HX_.out
          clear HX_
          have HZ_ := Aside0.mk (td_kept HZ.out hb)
          clear HZ
          have HZ := Aside0.mk HZ_.out
          clear HZ_
          have HT_ := Aside0.mk (HT.out.step hb)
          clear HT
          have HT := Aside0.mk HT_.out
          clear HT_
          have HB_ := Aside0.mk (below_step HB.out hb)
          clear HB
          have HB := Aside0.mk HB_.out
          clear HB_
          have HO_ := Aside0.mk (td_kept HO.out hb)
          clear HO
          have HO := Aside0.mk HO_.out
          clear HO_
          clear hb
          refine tk_ (i := 0) (oi := ⟨some 34, _, _, _, _, none⟩) (v := ?v33) rfl (by rfl) ?y33 (by with_reducible assumption) ?r33
          case y33 => (intro V_ hSw; (try dsimp only at hSw); go_simp; (try with_reducible rfl))
          try simp only [Act.put, List.setIfInBounds_toArray, List.set_cons_zero, List.set_cons_succ]
          refine tk_ (i := 1) (oi := ⟨some 35, _, _, _, _, none⟩) (v := ?v34) rfl (by rfl) ?y34 (by with_reducible assumption) ?r34
          case y34 => (intro V_ hSw; (try dsimp only at hSw); go_simp; (try with_reducible rfl))
          try simp only [Act.put, List.setIfInBounds_toArray, List.set_cons_zero, List.set_cons_succ]
          refine tk_ (i := 2) (oi := ⟨some 36, _, _, _, _, none⟩) (v := ?v35) rfl (by rfl) ?y35 (by with_reducible assumption) ?r35
          case y35 => (intro V_ hSw; (try dsimp only at hSw); go_simp; (try with_reducible rfl))
          try simp only [Act.put, List.setIfInBounds_toArray, List.set_cons_zero, List.set_cons_succ]
          refine tk_ (i := 3) (oi := ⟨some 37, _, _, _, _, none⟩) (v := ?v36) rfl (by rfl) ?y36 (by with_reducible assumption) ?r36
          case y36 => (intro V_ hSw; (try dsimp only at hSw); go_simp; (try with_reducible rfl))
          try simp only [Act.put, List.setIfInBounds_toArray, List.set_cons_zero, List.set_cons_succ]
          refine tk_ (i := 4) (oi := ⟨some 38, _, _, _, _, none⟩) (v := ?v37) rfl (by rfl) ?y37 (by with_reducible assumption) ?r37
          case y37 => (intro V_ hSw; (try dsimp only at hSw); go_simp; (try with_reducible rfl))
          try simp only [Act.put, List.setIfInBounds_toArray, List.set_cons_zero, List.set_cons_succ]
          refine tk_ (i := 5) (oi := ⟨some 39, _, _, _, _, none⟩) (v := ?v38) rfl (by rfl) ?y38 (by with_reducible assumption) ?r38
          case y38 => (intro V_ hSw; (try dsimp only at hSw); go_simp; (try with_reducible rfl))
          try simp only [Act.put, List.setIfInBounds_toArray, List.set_cons_zero, List.set_cons_succ]
          refine tk_ (i := 6) (oi := ⟨some 40, _, _, _, _, none⟩) (v := ?v39) rfl (by rfl) ?y39 (by with_reducible assumption) ?r39
          case y39 => (intro V_ hSw; (try dsimp only at hSw); go_simp; (try with_reducible rfl))
          try simp only [Act.put, List.setIfInBounds_toArray, List.set_cons_zero, List.set_cons_succ]
          refine tk_ (i := 7) (oi := ⟨some 41, _, _, _, _, none⟩) (v := ?v40) rfl (by rfl) ?y40 (by with_reducible assumption) ?r40
          case y40 => (intro V_ hSw; (try dsimp only at hSw); go_simp; (try with_reducible rfl))
          try simp only [Act.put, List.setIfInBounds_toArray, List.set_cons_zero, List.set_cons_succ]
          refine tk_ (i := 8) (oi := ⟨some 42, _, _, _, _, none⟩) (v := ?v41) rfl (by rfl) ?y41 (by with_reducible assumption) ?r41
          case y41 => (intro V_ hSw; (try dsimp only at hSw); go_simp; (try with_reducible rfl))
          try simp only [Act.put, List.setIfInBounds_toArray, List.set_cons_zero, List.set_cons_succ]
          refine wpAnyH_ready (rs := [9]) (by kernel_rfl) (by simp) (AllReadyH.cons (o := ⟨some 43, _, _, _, _, none⟩) rfl (fun K hK => ?_) AllReadyH.nil)
          go_simp
          refine (rl_meets y.s s _).mono ?_
          rintro e w7 ⟨rfl, hb⟩
          have HX_ := Aside0.mk (td_kept HX.out hb)
          clear HX
          have HX := Aside0.mk HX_.out
          clear HX_
          have HZ_ := Aside0.mk (td_kept HZ.out hb)
          clear HZ
          have HZ := Aside0.mk HZ_.out
          clear HZ_
          have HT_ := Aside0.mk (HT.out.step hb)
          clear HT
          have HT := Aside0.mk HT_.out
          clear HT_
          have HB_ := Aside0.mk (below_step HB.out hb)
          clear HB
          have HB := Aside0.mk HB_.out
          clear HB_
          have HO_ := Aside0.mk (td_kept HO.out hb)
          clear HO
          have HO := Aside0.mk HO_.out
          clear HO_
          clear hb
          rw [HMB.out]
          refine hK.out _ _ ⟨HLC.out _ (below_step HB.out (Below.refl _ _)), (blk_cell (td_kept HT.out.box (Below.refl _ _)) 2).trans rfl, (blk_cell (td_kept HX.out (Below.refl _ _)) 0).trans rfl, (blk_cell (td_kept HX.out (Below.refl _ _)) 1).trans rfl⟩ (fun hHeld => ?_)
          clear hK K
          try simp only [Act.put, List.setIfInBounds_toArray, List.set_cons_zero, List.set_cons_succ]
          refine tk_ (i := 10) (oi := ⟨some 44, _, _, _, _, none⟩) (v := ?v42) rfl (by rfl) ?y42 (by with_reducible assumption) ?r42
          case y42 => (intro V_ hSw; (try dsimp only at hSw); go_simp; (try with_reducible rfl))
          try simp only [Act.put, List.setIfInBounds_toArray, List.set_cons_zero, List.set_cons_succ]
          refine tk_ (i := 11) (oi := ⟨some 45, _, _, _, _, some (10, true)⟩) (v := ?v43) rfl (by rfl) ?y43 (by with_reducible assumption) ?r43
          case y43 => (intro V_ hSw; (try dsimp only at hSw); go_simp; (try with_reducible rfl))
          try simp only [Act.put, List.setIfInBounds_toArray, List.set_cons_zero, List.set_cons_succ]
          refine tk_ (i := 12) (oi := ⟨some 46, _, _, _, _, some (10, true)⟩) (v := ?v44) rfl (by rfl) ?y44 (by with_reducible assumption) ?r44
          case y44 => (intro V_ hSw; (try dsimp only at hSw); go_simp; (try with_reducible rfl))
          try simp only [Act.put, List.setIfInBounds_toArray, List.set_cons_zero, List.set_cons_succ]
          refine tk_ (i := 13) (oi := ⟨some 47, _, _, _, _, some (10, true)⟩) (v := ?v45) rfl (by rfl) ?y45 (by with_reducible assumption) ?r45
          case y45 => (intro V_ hSw; (try dsimp only at hSw); go_simp; (try with_reducible rfl))
          try simp only [Act.put, List.setIfInBounds_toArray, List.set_cons_zero, List.set_cons_succ]
          refine tk0_ (i := 14) (oi := ⟨some 48, _, _, _, _, some (13, false)⟩) rfl (by rfl) (by with_reducible assumption) ?_
          try simp only [Act.put, List.setIfInBounds_toArray, List.set_cons_zero, List.set_cons_succ]
          refine tk0_ (i := 15) (oi := ⟨some 49, _, _, _, _, some (13, false)⟩) rfl (by rfl) (by with_reducible assumption) ?_
          try simp only [Act.put, List.setIfInBounds_toArray, List.set_cons_zero, List.set_cons_succ]
          refine tk0_ (i := 16) (oi := ⟨some 50, _, _, _, _, some (13, false)⟩) rfl (by rfl) (by with_reducible assumption) ?_
          try simp only [Act.put, List.setIfInBounds_toArray, List.set_cons_zero, List.set_cons_succ]
          refine tk0_ (i := 17) (oi := ⟨some 51, _, _, _, _, some (13, false)⟩) rfl (by rfl) (by with_reducible assumption) ?_
          try simp only [Act.put, List.setIfInBounds_toArray, List.set_cons_zero, List.set_cons_succ]
          refine tk0_ (i := 18) (oi := ⟨some 52, _, _, _, _, some (13, false)⟩) rfl (by rfl) (by with_reducible assumption) ?_
          try simp only [Act.put, List.setIfInBounds_toArray, List.set_cons_zero, List.set_cons_succ]
          refine tk0_ (i := 19) (oi := ⟨some 53, _, _, _, _, some (13, false)⟩) rfl (by rfl) (by with_reducible assumption) ?_
          try simp only [Act.put, List.setIfInBounds_toArray, List.set_cons_zero, List.set_cons_succ]
          refine tk0_ (i := 20) (oi := ⟨some 54, _, _, _, _, some (13, false)⟩) rfl (by rfl) (by with_reducible assumption) ?_
          try simp only [Act.put, List.setIfInBounds_toArray, List.set_cons_zero, List.set_cons_succ]
          refine tk0_ (i := 21) (oi := ⟨some 55, _, _, _, _, some (13, false)⟩) rfl (by rfl) (by with_reducible assumption) ?_
          try simp only [Act.put, List.setIfInBounds_toArray, List.set_cons_zero, List.set_cons_succ]
          refine tk0_ (i := 22) (oi := ⟨some 56, _, _, _, _, some (13, false)⟩) rfl (by rfl) (by with_reducible assumption) ?_
          try simp only [Act.put, List.setIfInBounds_toArray, List.set_cons_zero, List.set_cons_succ]
          refine tk0_ (i := 23) (oi := ⟨some 57, _, _, _, _, some (13, false)⟩) rfl (by rfl) (by with_reducible assumption) ?_
          try simp only [Act.put, List.setIfInBounds_toArray, List.set_cons_zero, List.set_cons_succ]
          refine tk_ (i := 24) (oi := ⟨some 58, _, _, _, _, some (10, true)⟩) (v := ?v56) rfl (by rfl) ?y56 (by with_reducible assumption) ?r56
          case y56 => (intro V_ hSw; (try dsimp only at hSw); go_simp; (try with_reducible rfl))
          try simp only [Act.put, List.setIfInBounds_toArray, List.set_cons_zero, List.set_cons_succ]
          refine tk_ (i := 25) (oi := ⟨some 59, _, _, _, _, none⟩) (v := ?v57) rfl (by rfl) ?y57 (by with_reducible assumption) ?r57
          case y57 => (intro V_ hSw; (try dsimp only at hSw); go_simp; (try with_reducible rfl))
          try simp only [Act.put, List.setIfInBounds_toArray, List.set_cons_zero, List.set_cons_succ]
          refine wpAnyH_done (by kernel_rfl) ?_ _
          refine NoPanic.normal ?_
          clear hHeld
          rename World => w8
          go_upto_region 11 with fail
          refine wp_region_noPanic ?_
          refine wp_region_held_drew (S := (fun V => (V.cell? (ad.add (i * 5)) = some (.string y.s.f0) ∧ V.cell? ⟨(ad.add (i * 5)).block, (ad.add (i * 5)).off + 1, none⟩ = some (.string y.s.f1) ∧ V.cell? ⟨(ad.add (i * 5)).block, (ad.add (i * 5)).off + 2, none⟩ = some (.int .i64 y.at_.1) ∧ V.cell? ⟨(ad.add (i * 5)).block, (ad.add (i * 5)).off + 3, none⟩ = some (.int .i64 y.at_.2) ∧ V.cell? ⟨(ad.add (i * 5)).block, (ad.add (i * 5)).off + 4, none⟩ = some (.int .i64 y.o)) ∧ V.cell? ⟨g, 2, none⟩ = some (.slice (some ad) t.l.length c))) (by kernel_rfl) ⟨HLC.out _ (below_step HB.out (below_drew1 (Below.refl _ _))), (blk_cell (td_kept HT.out.box (below_drew1 (Below.refl _ _))) 2).trans rfl⟩ (fun hHeld => ?_)
          generalize hwd : World.drew _ = wd at hHeld ⊢
          have hb : Below w8.heap.size w8 wd := by rw [← hwd]; exact below_drew1 (Below.refl _ _)
          clear hwd
          have HX_ := Aside0.mk (td_kept HX.out hb)
          clear HX
          have HX := Aside0.mk HX_.out
          clear HX_
          have HZ_ := Aside0.mk (td_kept HZ.out hb)
          clear HZ
          have HZ := Aside0.mk HZ_.out
          clear HZ_
          have HT_ := Aside0.mk (HT.out.step hb)
          clear HT
          have HT := Aside0.mk HT_.out
          clear HT_
          have HB_ := Aside0.mk (below_step HB.out hb)
          clear HB
          have HB := Aside0.mk HB_.out
          clear HB_
          have HO_ := Aside0.mk (td_kept HO.out hb)
          clear HO
          have HO := Aside0.mk HO_.out
          clear HO_
          clear hb
          refine tk_ (i := 1) (oi := ⟨some 61, _, _, _, _, none⟩) (v := ?v58) rfl (by rfl) ?y58 (by with_reducible assumption) ?r58
          case y58 => (intro V_ hSw; (try dsimp only at hSw); go_simp; (try with_reducible rfl))
          try simp only [Act.put, List.setIfInBounds_toArray, List.set_cons_zero, List.set_cons_succ]
          refine tk_ (i := 2) (oi := ⟨some 62, _, _, _, _, none⟩) (v := ?v59) rfl (by rfl) ?y59 (by with_reducible assumption) ?r59
          case y59 => (intro V_ hSw; (try dsimp only at hSw); go_simp; (try with_reducible rfl))
          try simp only [Act.put, List.setIfInBounds_toArray, List.set_cons_zero, List.set_cons_succ]
          refine tk_ (i := 3) (oi := ⟨some 63, _, _, _, _, none⟩) (v := ?v60) rfl (by rfl) ?y60 (by with_reducible assumption) ?r60
          case y60 => (intro V_ hSw; (try dsimp only at hSw); go_simp; (try with_reducible rfl))
          try simp only [Act.put, List.setIfInBounds_toArray, List.set_cons_zero, List.set_cons_succ]
          refine tk_ (i := 4) (oi := ⟨some 64, _, _, _, _, none⟩) (v := ?v61) rfl (by rfl) ?y61 (by with_reducible assumption) ?r61
          case y61 => (intro V_ hSw; (try dsimp only at hSw); go_simp; (try with_reducible rfl))
          try simp only [Act.put, List.setIfInBounds_toArray, List.set_cons_zero, List.set_cons_succ]
          refine tk_ (i := 5) (oi := ⟨some 65, _, _, _, _, none⟩) (v := ?v62) rfl (by rfl) ?y62 (by with_reducible assumption) ?r62
          case y62 => (intro V_ hSw; (try dsimp only at hSw); go_simp; (try with_reducible rfl))
          try simp only [Act.put, List.setIfInBounds_toArray, List.set_cons_zero, List.set_cons_succ]
          refine tk_ (i := 6) (oi := ⟨some 66, _, _, _, _, none⟩) (v := ?v63) rfl (by rfl) ?y63 (by with_reducible assumption) ?r63
          case y63 => (intro V_ hSw; (try dsimp only at hSw); go_simp; (try with_reducible rfl))
          try simp only [Act.put, List.setIfInBounds_toArray, List.set_cons_zero, List.set_cons_succ]
          refine tk_ (i := 7) (oi := ⟨some 67, _, _, _, _, none⟩) (v := ?v64) rfl (by rfl) ?y64 (by with_reducible assumption) ?r64
          case y64 => (intro V_ hSw; (try dsimp only at hSw); go_simp; (try with_reducible rfl))
          try simp only [Act.put, List.setIfInBounds_toArray, List.set_cons_zero, List.set_cons_succ]
          refine tk_ (i := 8) (oi := ⟨some 68, _, _, _, _, none⟩) (v := ?v65) rfl (by rfl) ?y65 (by with_reducible assumption) ?r65
          case y65 => (intro V_ hSw; (try dsimp only at hSw); go_simp; (try with_reducible rfl))
          try simp only [Act.put, List.setIfInBounds_toArray, List.set_cons_zero, List.set_cons_succ]
          refine wpAnyH_ready (rs := [0]) (by kernel_rfl) (by simp) (AllReadyH.cons (o := ⟨some 60, _, _, _, _, none⟩) rfl (fun K hK => ?_) AllReadyH.nil)
          have o0 : wd.cell? ⟨m4, 0, none⟩ = some (.int .i64 m.1) := (blk_cell HO.out 0).trans rfl
          have o1 : wd.cell? ⟨m4, 1, none⟩ = some (.int .i64 m.2) := (blk_cell HO.out 1).trans rfl
          go_simp
          clear o0 o1
          refine hK.out _ _ hHeld (fun hHeld => ?_)
          clear hK K
          try simp only [Act.put, List.setIfInBounds_toArray, List.set_cons_zero, List.set_cons_succ]
          refine wpAnyH_ready (rs := [9]) (by kernel_rfl) (by simp) (AllReadyH.cons (o := ⟨some 69, _, _, _, _, none⟩) rfl (fun K hK => ?_) AllReadyH.nil)
          go_simp
          refine (rl_two m y.at_ _).mono ?_
          rintro e w9 ⟨rfl, hb⟩
          have HX_ := Aside0.mk (td_kept HX.out hb)
          clear HX
          have HX := Aside0.mk HX_.out
          clear HX_
          have HZ_ := Aside0.mk (td_kept HZ.out hb)
          clear HZ
          have HZ := Aside0.mk HZ_.out
          clear HZ_
          have HT_ := Aside0.mk (HT.out.step hb)
          clear HT
          have HT := Aside0.mk HT_.out
          clear HT_
          have HB_ := Aside0.mk (below_step HB.out hb)
          clear HB
          have HB := Aside0.mk HB_.out
          clear HB_
          have HO_ := Aside0.mk (td_kept HO.out hb)
          clear HO
          have HO := Aside0.mk HO_.out
          clear HO_
          clear hb
          refine hK.out _ _ ⟨HLC.out _ (below_step HB.out (Below.refl _ _)), (blk_cell (td_kept HT.out.box (Below.refl _ _)) 2).trans rfl⟩ (fun hHeld => ?_)
          clear hK K
          try simp only [Act.put, List.setIfInBounds_toArray, List.set_cons_zero, List.set_cons_succ]
          refine wpAnyH_ready (rs := [10]) (by kernel_rfl) (by simp) (AllReadyH.cons (o := ⟨none, _, _, _, _, none⟩) rfl (fun K hK => ?_) AllReadyH.nil)
          have o0 : w9.cell? ⟨m4, 0, none⟩ = some (.int .i64 m.1) := (blk_cell HO.out 0).trans rfl
          have o1 : w9.cell? ⟨m4, 1, none⟩ = some (.int .i64 m.2) := (blk_cell HO.out 1).trans rfl
          have f0 := blk_frozen HO.out 0
          have f1 := blk_frozen HO.out 1
          go_simp
          clear o0 o1 f0 f1
          have ho1 := blk_put (cs' := #[.int .i64 (tmx m y.at_).1, .int .i64 m.2]) HO.out 0 (.int .i64 (tmx m y.at_).1) rfl
          have ho2 := blk_put (cs' := #[.int .i64 (tmx m y.at_).1, .int .i64 (tmx m y.at_).2]) ho1 1 (.int .i64 (tmx m y.at_).2) rfl
          have HT_ := Aside0.mk ((HT.out.far HO.out (i := 0) (by decide) HW0.out HNG.out (.int .i64 (tmx m y.at_).1)).far ho1 (i := 1) (by decide) HW0.out HNG.out (.int .i64 (tmx m y.at_).2))
          have HB_ := Aside0.mk (Below.setCell (Below.setCell HB.out (p := ⟨m4, 0, none⟩) HNO.out (.int .i64 (tmx m y.at_).1)) (p := ⟨m4, 1, none⟩) HNO.out (.int .i64 (tmx m y.at_).2))
          have HX_ := Aside0.mk (blk_far (blk_far HX.out (p := ⟨m4, 0, none⟩) HNX.out (.int .i64 (tmx m y.at_).1)) (p := ⟨m4, 1, none⟩) HNX.out (.int .i64 (tmx m y.at_).2))
          have HZ_ := Aside0.mk (blk_far (blk_far HZ.out (p := ⟨m4, 0, none⟩) HNZ.out (.int .i64 (tmx m y.at_).1)) (p := ⟨m4, 1, none⟩) HNZ.out (.int .i64 (tmx m y.at_).2))
          have HO_1 := Aside0.mk ho2
          clear ho1 ho2 HT HB HX HZ HO
          have HT := Aside0.mk HT_.out
          have HB := Aside0.mk HB_.out
          have HX := Aside0.mk HX_.out
          have HZ := Aside0.mk HZ_.out
          have HO := Aside0.mk HO_1.out
          clear HT_ HB_ HX_ HZ_ HO_1
          refine hK.out _ _ ⟨HLC.out _ HB.out, (blk_cell HT.out.box 2).trans rfl⟩ (fun hHeld => ?_)
          clear hK K
          try simp only [Act.put, List.setIfInBounds_toArray, List.set_cons_zero, List.set_cons_succ]
          refine wpAnyH_done (by kernel_rfl) ?_ _
          refine NoPanic.normal ?_
          clear hHeld
          go_wp2_with fail
          go_roundg (t.l.length - i)
          case measure => have h1 := HI.out; have h2 := HLT.out; omega
          case rel => exact ⟨i + 1, tmx m y.at_, congrArg (Value.int .i64) (by first | exact HWI.out | exact HWI2.out | rfl | omega), ⟨by have h1 := HI.out; have h2 := HLT.out; omega⟩, ⟨HLT.out⟩, ⟨by have h1 := HMD.out; rw [if_pos (by exact HAS.out)] at h1; exact h1.symm.trans HM.out⟩, HT, HB, HX, HZ, HO⟩
        case neg =>
          have e0 : (o == 0) = false := beq_eq_false_iff_ne.mpr ho
          clear ho
          by_cases hq : y.o = o
          case pos =>
            have e1 : (y.o != o) = false := by rw [hq]; simp
            have e2 : (y.o == o) = true := beq_iff_eq.mpr hq
            have HAS := Aside0.mk (show asks s o y = false from by unfold asks; rw [HMB.out, e0, e1]; rfl)
            clear hq
            go_upto_region 10 with fail
            clear g2
            refine wp_region_noPanic ?_
            refine wp_region_held_drew (S := (fun V => (V.cell? (ad.add (i * 5)) = some (.string y.s.f0) ∧ V.cell? ⟨(ad.add (i * 5)).block, (ad.add (i * 5)).off + 1, none⟩ = some (.string y.s.f1) ∧ V.cell? ⟨(ad.add (i * 5)).block, (ad.add (i * 5)).off + 2, none⟩ = some (.int .i64 y.at_.1) ∧ V.cell? ⟨(ad.add (i * 5)).block, (ad.add (i * 5)).off + 3, none⟩ = some (.int .i64 y.at_.2) ∧ V.cell? ⟨(ad.add (i * 5)).block, (ad.add (i * 5)).off + 4, none⟩ = some (.int .i64 y.o)) ∧ V.cell? ⟨g, 2, none⟩ = some (.slice (some ad) t.l.length c) ∧ V.cell? ⟨n, 0, none⟩ = some (.string s.f0) ∧ V.cell? ⟨n, 1, none⟩ = some (.string s.f1))) (by kernel_rfl) ⟨HLC.out _ (below_step HB.out (below_drew1 (Below.refl _ _))), (blk_cell (td_kept HT.out.box (below_drew1 (Below.refl _ _))) 2).trans rfl, (blk_cell (td_kept HX.out (below_drew1 (Below.refl _ _))) 0).trans rfl, (blk_cell (td_kept HX.out (below_drew1 (Below.refl _ _))) 1).trans rfl⟩ (fun hHeld => ?_)
            generalize hwd : World.drew _ = wd at hHeld ⊢
            have hb : Below wr.heap.size wr wd := by rw [← hwd]; exact below_drew1 (Below.refl _ _)
            clear hwd
            have HX_ := Aside0.mk (td_kept HX.out hb)
            clear HX
            have HX := Aside0.mk HX_.out
            clear HX_
            have HZ_ := Aside0.mk (td_kept HZ.out hb)
            clear HZ
            have HZ := Aside0.mk HZ_.out
            clear HZ_
            have HT_ := Aside0.mk (HT.out.step hb)
            clear HT
            have HT := Aside0.mk HT_.out
            clear HT_
            have HB_ := Aside0.mk (below_step HB.out hb)
            clear HB
            have HB := Aside0.mk HB_.out
            clear HB_
            have HO_ := Aside0.mk (td_kept HO.out hb)
            clear HO
            have HO := Aside0.mk HO_.out
            clear HO_
            clear hb
            refine tk_ (i := 0) (oi := ⟨some 34, _, _, _, _, none⟩) (v := ?v66) rfl (by rfl) ?y66 (by with_reducible assumption) ?r66
            case y66 => (intro V_ hSw; (try dsimp only at hSw); go_simp; (try with_reducible rfl))
            try simp only [Act.put, List.setIfInBounds_toArray, List.set_cons_zero, List.set_cons_succ]
            refine tk_ (i := 1) (oi := ⟨some 35, _, _, _, _, none⟩) (v := ?v67) rfl (by rfl) ?y67 (by with_reducible assumption) ?r67
            case y67 => (intro V_ hSw; (try dsimp only at hSw); go_simp; (try with_reducible rfl))
            try simp only [Act.put, List.setIfInBounds_toArray, List.set_cons_zero, List.set_cons_succ]
            refine tk_ (i := 2) (oi := ⟨some 36, _, _, _, _, none⟩) (v := ?v68) rfl (by rfl) ?y68 (by with_reducible assumption) ?r68
            case y68 => (intro V_ hSw; (try dsimp only at hSw); go_simp; (try with_reducible rfl))
            try simp only [Act.put, List.setIfInBounds_toArray, List.set_cons_zero, List.set_cons_succ]
            refine tk_ (i := 3) (oi := ⟨some 37, _, _, _, _, none⟩) (v := ?v69) rfl (by rfl) ?y69 (by with_reducible assumption) ?r69
            case y69 => (intro V_ hSw; (try dsimp only at hSw); go_simp; (try with_reducible rfl))
            try simp only [Act.put, List.setIfInBounds_toArray, List.set_cons_zero, List.set_cons_succ]
            refine tk_ (i := 4) (oi := ⟨some 38, _, _, _, _, none⟩) (v := ?v70) rfl (by rfl) ?y70 (by with_reducible assumption) ?r70
            case y70 => (intro V_ hSw; (try dsimp only at hSw); go_simp; (try with_reducible rfl))
            try simp only [Act.put, List.setIfInBounds_toArray, List.set_cons_zero, List.set_cons_succ]
            refine tk_ (i := 5) (oi := ⟨some 39, _, _, _, _, none⟩) (v := ?v71) rfl (by rfl) ?y71 (by with_reducible assumption) ?r71
            case y71 => (intro V_ hSw; (try dsimp only at hSw); go_simp; (try with_reducible rfl))
            try simp only [Act.put, List.setIfInBounds_toArray, List.set_cons_zero, List.set_cons_succ]
            refine tk_ (i := 6) (oi := ⟨some 40, _, _, _, _, none⟩) (v := ?v72) rfl (by rfl) ?y72 (by with_reducible assumption) ?r72
            case y72 => (intro V_ hSw; (try dsimp only at hSw); go_simp; (try with_reducible rfl))
            try simp only [Act.put, List.setIfInBounds_toArray, List.set_cons_zero, List.set_cons_succ]
            refine tk_ (i := 7) (oi := ⟨some 41, _, _, _, _, none⟩) (v := ?v73) rfl (by rfl) ?y73 (by with_reducible assumption) ?r73
            case y73 => (intro V_ hSw; (try dsimp only at hSw); go_simp; (try with_reducible rfl))
            try simp only [Act.put, List.setIfInBounds_toArray, List.set_cons_zero, List.set_cons_succ]
            refine tk_ (i := 8) (oi := ⟨some 42, _, _, _, _, none⟩) (v := ?v74) rfl (by rfl) ?y74 (by with_reducible assumption) ?r74
            case y74 => (intro V_ hSw; (try dsimp only at hSw); go_simp; (try with_reducible rfl))
            try simp only [Act.put, List.setIfInBounds_toArray, List.set_cons_zero, List.set_cons_succ]
            refine wpAnyH_ready (rs := [9]) (by kernel_rfl) (by simp) (AllReadyH.cons (o := ⟨some 43, _, _, _, _, none⟩) rfl (fun K hK => ?_) AllReadyH.nil)
            go_simp
            refine (rl_meets y.s s _).mono ?_
            rintro e w7 ⟨rfl, hb⟩
            have HX_ := Aside0.mk (td_kept HX.out hb)
            clear HX
            have HX := Aside0.mk HX_.out
            clear HX_
            have HZ_ := Aside0.mk (td_kept HZ.out hb)
            clear HZ
            have HZ := Aside0.mk HZ_.out
            clear HZ_
            have HT_ := Aside0.mk (HT.out.step hb)
            clear HT
            have HT := Aside0.mk HT_.out
            clear HT_
            have HB_ := Aside0.mk (below_step HB.out hb)
            clear HB
            have HB := Aside0.mk HB_.out
            clear HB_
            have HO_ := Aside0.mk (td_kept HO.out hb)
            clear HO
            have HO := Aside0.mk HO_.out
            clear HO_
            clear hb
            rw [HMB.out]
            refine hK.out _ _ ⟨HLC.out _ (below_step HB.out (Below.refl _ _)), (blk_cell (td_kept HT.out.box (Below.refl _ _)) 2).trans rfl, (blk_cell (td_kept HX.out (Below.refl _ _)) 0).trans rfl, (blk_cell (td_kept HX.out (Below.refl _ _)) 1).trans rfl⟩ (fun hHeld => ?_)
            clear hK K
            try simp only [Act.put, List.setIfInBounds_toArray, List.set_cons_zero, List.set_cons_succ]
            refine tk_ (i := 10) (oi := ⟨some 44, _, _, _, _, none⟩) (v := ?v75) rfl (by rfl) ?y75 (by with_reducible assumption) ?r75
            case y75 => (intro V_ hSw; (try dsimp only at hSw); go_simp; (try with_reducible rfl))
            try simp only [Act.put, List.setIfInBounds_toArray, List.set_cons_zero, List.set_cons_succ]
            refine tk_ (i := 11) (oi := ⟨some 45, _, _, _, _, some (10, true)⟩) (v := ?v76) rfl (by rfl) ?y76 (by with_reducible assumption) ?r76
            case y76 => (intro V_ hSw; (try dsimp only at hSw); go_simp; (try with_reducible rfl))
            try simp only [Act.put, List.setIfInBounds_toArray, List.set_cons_zero, List.set_cons_succ]
            refine tk_ (i := 12) (oi := ⟨some 46, _, _, _, _, some (10, true)⟩) (v := ?v77) rfl (by rfl) ?y77 (by with_reducible assumption) ?r77
            case y77 => (intro V_ hSw; (try dsimp only at hSw); go_simp; (try with_reducible rfl))
            try simp only [Act.put, List.setIfInBounds_toArray, List.set_cons_zero, List.set_cons_succ]
            refine tk_ (i := 13) (oi := ⟨some 47, _, _, _, _, some (10, true)⟩) (v := ?v78) rfl (by rfl) ?y78 (by with_reducible assumption) ?r78
            case y78 => (intro V_ hSw; (try dsimp only at hSw); go_simp; (try with_reducible rfl))
            try simp only [Act.put, List.setIfInBounds_toArray, List.set_cons_zero, List.set_cons_succ]
            refine tk_ (i := 14) (oi := ⟨some 48, _, _, _, _, some (13, false)⟩) (v := ?v79) rfl (by rfl) ?y79 (by with_reducible assumption) ?r79
            case y79 => (intro V_ hSw; (try dsimp only at hSw); go_simp; (try with_reducible rfl))
            try simp only [Act.put, List.setIfInBounds_toArray, List.set_cons_zero, List.set_cons_succ]
            refine tk_ (i := 15) (oi := ⟨some 49, _, _, _, _, some (13, false)⟩) (v := ?v80) rfl (by rfl) ?y80 (by with_reducible assumption) ?r80
            case y80 => (intro V_ hSw; (try dsimp only at hSw); go_simp; (try with_reducible rfl))
            try simp only [Act.put, List.setIfInBounds_toArray, List.set_cons_zero, List.set_cons_succ]
            refine tk_ (i := 16) (oi := ⟨some 50, _, _, _, _, some (13, false)⟩) (v := ?v81) rfl (by rfl) ?y81 (by with_reducible assumption) ?r81
            case y81 => (intro V_ hSw; (try dsimp only at hSw); go_simp; (try with_reducible rfl))
            try simp only [Act.put, List.setIfInBounds_toArray, List.set_cons_zero, List.set_cons_succ]
            refine tk_ (i := 17) (oi := ⟨some 51, _, _, _, _, some (13, false)⟩) (v := ?v82) rfl (by rfl) ?y82 (by with_reducible assumption) ?r82
            case y82 => (intro V_ hSw; (try dsimp only at hSw); go_simp; (try with_reducible rfl))
            try simp only [Act.put, List.setIfInBounds_toArray, List.set_cons_zero, List.set_cons_succ]
            refine tk_ (i := 18) (oi := ⟨some 52, _, _, _, _, some (13, false)⟩) (v := ?v83) rfl (by rfl) ?y83 (by with_reducible assumption) ?r83
            case y83 => (intro V_ hSw; (try dsimp only at hSw); go_simp; (try with_reducible rfl))
            try simp only [Act.put, List.setIfInBounds_toArray, List.set_cons_zero, List.set_cons_succ]
            refine tk_ (i := 19) (oi := ⟨some 53, _, _, _, _, some (13, false)⟩) (v := ?v84) rfl (by rfl) ?y84 (by with_reducible assumption) ?r84
            case y84 => (intro V_ hSw; (try dsimp only at hSw); go_simp; (try with_reducible rfl))
            try simp only [Act.put, List.setIfInBounds_toArray, List.set_cons_zero, List.set_cons_succ]
            refine tk_ (i := 20) (oi := ⟨some 54, _, _, _, _, some (13, false)⟩) (v := ?v85) rfl (by rfl) ?y85 (by with_reducible assumption) ?r85
            case y85 => (intro V_ hSw; (try dsimp only at hSw); go_simp; (try with_reducible rfl))
            try simp only [Act.put, List.setIfInBounds_toArray, List.set_cons_zero, List.set_cons_succ]
            refine tk_ (i := 21) (oi := ⟨some 55, _, _, _, _, some (13, false)⟩) (v := ?v86) rfl (by rfl) ?y86 (by with_reducible assumption) ?r86
            case y86 => (intro V_ hSw; (try dsimp only at hSw); go_simp; (try with_reducible rfl))
            try simp only [Act.put, List.setIfInBounds_toArray, List.set_cons_zero, List.set_cons_succ]
            refine tk_ (i := 22) (oi := ⟨some 56, _, _, _, _, some (13, false)⟩) (v := ?v87) rfl (by rfl) ?y87 (by with_reducible assumption) ?r87
            case y87 => (intro V_ hSw; (try dsimp only at hSw); go_simp; (try with_reducible rfl))
            try simp only [Act.put, List.setIfInBounds_toArray, List.set_cons_zero, List.set_cons_succ]
            refine tk_ (i := 23) (oi := ⟨some 57, _, _, _, _, some (13, false)⟩) (v := ?v88) rfl (by rfl) ?y88 (by with_reducible assumption) ?r88
            case y88 => (intro V_ hSw; (try dsimp only at hSw); go_simp; (try with_reducible rfl))
            try simp only [Act.put, List.setIfInBounds_toArray, List.set_cons_zero, List.set_cons_succ]
            refine tk_ (i := 24) (oi := ⟨some 58, _, _, _, _, some (10, true)⟩) (v := ?v89) rfl (by rfl) ?y89 (by with_reducible assumption) ?r89
            case y89 => (intro V_ hSw; (try dsimp only at hSw); go_simp; (try with_reducible rfl))
            try simp only [Act.put, List.setIfInBounds_toArray, List.set_cons_zero, List.set_cons_succ]
            refine tk_ (i := 25) (oi := ⟨some 59, _, _, _, _, none⟩) (v := ?v90) rfl (by rfl) ?y90 (by with_reducible assumption) ?r90
            case y90 => (intro V_ hSw; (try dsimp only at hSw); go_simp; (try with_reducible rfl))
            try simp only [Act.put, List.setIfInBounds_toArray, List.set_cons_zero, List.set_cons_succ]
            refine wpAnyH_done (by kernel_rfl) ?_ _
            refine NoPanic.normal ?_
            clear hHeld
            go_wp2_with fail
            go_roundg (t.l.length - i)
            case measure => have h1 := HI.out; have h2 := HLT.out; omega
            case rel => exact ⟨i + 1, m, congrArg (Value.int .i64) (by first | exact HWI.out | exact HWI2.out | rfl | omega), ⟨by have h1 := HI.out; have h2 := HLT.out; omega⟩, ⟨HLT.out⟩, ⟨by have h1 := HMD.out; rw [if_neg (by rw [HAS.out]; exact Bool.false_ne_true)] at h1; exact h1.symm.trans HM.out⟩, HT, HB, HX, HZ, HO⟩
          case neg =>
            have e1 : (y.o != o) = true := bne_iff_ne.mpr hq
            have e2 : (y.o == o) = false := beq_eq_false_iff_ne.mpr hq
            have HAS := Aside0.mk (show asks s o y = true from by unfold asks; rw [HMB.out, e0, e1]; rfl)
            clear hq
            go_upto_region 10 with fail
            clear g2
            refine wp_region_noPanic ?_
            refine wp_region_held_drew (S := (fun V => (V.cell? (ad.add (i * 5)) = some (.string y.s.f0) ∧ V.cell? ⟨(ad.add (i * 5)).block, (ad.add (i * 5)).off + 1, none⟩ = some (.string y.s.f1) ∧ V.cell? ⟨(ad.add (i * 5)).block, (ad.add (i * 5)).off + 2, none⟩ = some (.int .i64 y.at_.1) ∧ V.cell? ⟨(ad.add (i * 5)).block, (ad.add (i * 5)).off + 3, none⟩ = some (.int .i64 y.at_.2) ∧ V.cell? ⟨(ad.add (i * 5)).block, (ad.add (i * 5)).off + 4, none⟩ = some (.int .i64 y.o)) ∧ V.cell? ⟨g, 2, none⟩ = some (.slice (some ad) t.l.length c) ∧ V.cell? ⟨n, 0, none⟩ = some (.string s.f0) ∧ V.cell? ⟨n, 1, none⟩ = some (.string s.f1))) (by kernel_rfl) ⟨HLC.out _ (below_step HB.out (below_drew1 (Below.refl _ _))), (blk_cell (td_kept HT.out.box (below_drew1 (Below.refl _ _))) 2).trans rfl, (blk_cell (td_kept HX.out (below_drew1 (Below.refl _ _))) 0).trans rfl, (blk_cell (td_kept HX.out (below_drew1 (Below.refl _ _))) 1).trans rfl⟩ (fun hHeld => ?_)
            generalize hwd : World.drew _ = wd at hHeld ⊢
            have hb : Below wr.heap.size wr wd := by rw [← hwd]; exact below_drew1 (Below.refl _ _)
            clear hwd
            have HX_ := Aside0.mk (td_kept HX.out hb)
            clear HX
            have HX := Aside0.mk HX_.out
            clear HX_
            have HZ_ := Aside0.mk (td_kept HZ.out hb)
            clear HZ
            have HZ := Aside0.mk HZ_.out
            clear HZ_
            have HT_ := Aside0.mk (HT.out.step hb)
            clear HT
            have HT := Aside0.mk HT_.out
            clear HT_
            have HB_ := Aside0.mk (below_step HB.out hb)
            clear HB
            have HB := Aside0.mk HB_.out
            clear HB_
            have HO_ := Aside0.mk (td_kept HO.out hb)
            clear HO
            have HO := Aside0.mk HO_.out
            clear HO_
            clear hb
            refine tk_ (i := 0) (oi := ⟨some 34, _, _, _, _, none⟩) (v := ?v91) rfl (by rfl) ?y91 (by with_reducible assumption) ?r91
            case y91 => (intro V_ hSw; (try dsimp only at hSw); go_simp; (try with_reducible rfl))
            try simp only [Act.put, List.setIfInBounds_toArray, List.set_cons_zero, List.set_cons_succ]
            refine tk_ (i := 1) (oi := ⟨some 35, _, _, _, _, none⟩) (v := ?v92) rfl (by rfl) ?y92 (by with_reducible assumption) ?r92
            case y92 => (intro V_ hSw; (try dsimp only at hSw); go_simp; (try with_reducible rfl))
            try simp only [Act.put, List.setIfInBounds_toArray, List.set_cons_zero, List.set_cons_succ]
            refine tk_ (i := 2) (oi := ⟨some 36, _, _, _, _, none⟩) (v := ?v93) rfl (by rfl) ?y93 (by with_reducible assumption) ?r93
            case y93 => (intro V_ hSw; (try dsimp only at hSw); go_simp; (try with_reducible rfl))
            try simp only [Act.put, List.setIfInBounds_toArray, List.set_cons_zero, List.set_cons_succ]
            refine tk_ (i := 3) (oi := ⟨some 37, _, _, _, _, none⟩) (v := ?v94) rfl (by rfl) ?y94 (by with_reducible assumption) ?r94
            case y94 => (intro V_ hSw; (try dsimp only at hSw); go_simp; (try with_reducible rfl))
            try simp only [Act.put, List.setIfInBounds_toArray, List.set_cons_zero, List.set_cons_succ]
            refine tk_ (i := 4) (oi := ⟨some 38, _, _, _, _, none⟩) (v := ?v95) rfl (by rfl) ?y95 (by with_reducible assumption) ?r95
            case y95 => (intro V_ hSw; (try dsimp only at hSw); go_simp; (try with_reducible rfl))
            try simp only [Act.put, List.setIfInBounds_toArray, List.set_cons_zero, List.set_cons_succ]
            refine tk_ (i := 5) (oi := ⟨some 39, _, _, _, _, none⟩) (v := ?v96) rfl (by rfl) ?y96 (by with_reducible assumption) ?r96
            case y96 => (intro V_ hSw; (try dsimp only at hSw); go_simp; (try with_reducible rfl))
            try simp only [Act.put, List.setIfInBounds_toArray, List.set_cons_zero, List.set_cons_succ]
            refine tk_ (i := 6) (oi := ⟨some 40, _, _, _, _, none⟩) (v := ?v97) rfl (by rfl) ?y97 (by with_reducible assumption) ?r97
            case y97 => (intro V_ hSw; (try dsimp only at hSw); go_simp; (try with_reducible rfl))
            try simp only [Act.put, List.setIfInBounds_toArray, List.set_cons_zero, List.set_cons_succ]
            refine tk_ (i := 7) (oi := ⟨some 41, _, _, _, _, none⟩) (v := ?v98) rfl (by rfl) ?y98 (by with_reducible assumption) ?r98
            case y98 => (intro V_ hSw; (try dsimp only at hSw); go_simp; (try with_reducible rfl))
            try simp only [Act.put, List.setIfInBounds_toArray, List.set_cons_zero, List.set_cons_succ]
            refine tk_ (i := 8) (oi := ⟨some 42, _, _, _, _, none⟩) (v := ?v99) rfl (by rfl) ?y99 (by with_reducible assumption) ?r99
            case y99 => (intro V_ hSw; (try dsimp only at hSw); go_simp; (try with_reducible rfl))
            try simp only [Act.put, List.setIfInBounds_toArray, List.set_cons_zero, List.set_cons_succ]
            refine wpAnyH_ready (rs := [9]) (by kernel_rfl) (by simp) (AllReadyH.cons (o := ⟨some 43, _, _, _, _, none⟩) rfl (fun K hK => ?_) AllReadyH.nil)
            go_simp
            refine (rl_meets y.s s _).mono ?_
            rintro e w7 ⟨rfl, hb⟩
            have HX_ := Aside0.mk (td_kept HX.out hb)
            clear HX
            have HX := Aside0.mk HX_.out
            clear HX_
            have HZ_ := Aside0.mk (td_kept HZ.out hb)
            clear HZ
            have HZ := Aside0.mk HZ_.out
            clear HZ_
            have HT_ := Aside0.mk (HT.out.step hb)
            clear HT
            have HT := Aside0.mk HT_.out
            clear HT_
            have HB_ := Aside0.mk (below_step HB.out hb)
            clear HB
            have HB := Aside0.mk HB_.out
            clear HB_
            have HO_ := Aside0.mk (td_kept HO.out hb)
            clear HO
            have HO := Aside0.mk HO_.out
            clear HO_
            clear hb
            rw [HMB.out]
            refine hK.out _ _ ⟨HLC.out _ (below_step HB.out (Below.refl _ _)), (blk_cell (td_kept HT.out.box (Below.refl _ _)) 2).trans rfl, (blk_cell (td_kept HX.out (Below.refl _ _)) 0).trans rfl, (blk_cell (td_kept HX.out (Below.refl _ _)) 1).trans rfl⟩ (fun hHeld => ?_)
            clear hK K
            try simp only [Act.put, List.setIfInBounds_toArray, List.set_cons_zero, List.set_cons_succ]
            refine tk_ (i := 10) (oi := ⟨some 44, _, _, _, _, none⟩) (v := ?v100) rfl (by rfl) ?y100 (by with_reducible assumption) ?r100
            case y100 => (intro V_ hSw; (try dsimp only at hSw); go_simp; (try with_reducible rfl))
            try simp only [Act.put, List.setIfInBounds_toArray, List.set_cons_zero, List.set_cons_succ]
            refine tk_ (i := 11) (oi := ⟨some 45, _, _, _, _, some (10, true)⟩) (v := ?v101) rfl (by rfl) ?y101 (by with_reducible assumption) ?r101
            case y101 => (intro V_ hSw; (try dsimp only at hSw); go_simp; (try with_reducible rfl))
            try simp only [Act.put, List.setIfInBounds_toArray, List.set_cons_zero, List.set_cons_succ]
            refine tk_ (i := 12) (oi := ⟨some 46, _, _, _, _, some (10, true)⟩) (v := ?v102) rfl (by rfl) ?y102 (by with_reducible assumption) ?r102
            case y102 => (intro V_ hSw; (try dsimp only at hSw); go_simp; (try with_reducible rfl))
            try simp only [Act.put, List.setIfInBounds_toArray, List.set_cons_zero, List.set_cons_succ]
            refine tk_ (i := 13) (oi := ⟨some 47, _, _, _, _, some (10, true)⟩) (v := ?v103) rfl (by rfl) ?y103 (by with_reducible assumption) ?r103
            case y103 => (intro V_ hSw; (try dsimp only at hSw); go_simp; (try with_reducible rfl))
            try simp only [Act.put, List.setIfInBounds_toArray, List.set_cons_zero, List.set_cons_succ]
            refine tk_ (i := 14) (oi := ⟨some 48, _, _, _, _, some (13, false)⟩) (v := ?v104) rfl (by rfl) ?y104 (by with_reducible assumption) ?r104
            case y104 => (intro V_ hSw; (try dsimp only at hSw); go_simp; (try with_reducible rfl))
            try simp only [Act.put, List.setIfInBounds_toArray, List.set_cons_zero, List.set_cons_succ]
            refine tk_ (i := 15) (oi := ⟨some 49, _, _, _, _, some (13, false)⟩) (v := ?v105) rfl (by rfl) ?y105 (by with_reducible assumption) ?r105
            case y105 => (intro V_ hSw; (try dsimp only at hSw); go_simp; (try with_reducible rfl))
            try simp only [Act.put, List.setIfInBounds_toArray, List.set_cons_zero, List.set_cons_succ]
            refine tk_ (i := 16) (oi := ⟨some 50, _, _, _, _, some (13, false)⟩) (v := ?v106) rfl (by rfl) ?y106 (by with_reducible assumption) ?r106
            case y106 => (intro V_ hSw; (try dsimp only at hSw); go_simp; (try with_reducible rfl))
            try simp only [Act.put, List.setIfInBounds_toArray, List.set_cons_zero, List.set_cons_succ]
            refine tk_ (i := 17) (oi := ⟨some 51, _, _, _, _, some (13, false)⟩) (v := ?v107) rfl (by rfl) ?y107 (by with_reducible assumption) ?r107
            case y107 => (intro V_ hSw; (try dsimp only at hSw); go_simp; (try with_reducible rfl))
            try simp only [Act.put, List.setIfInBounds_toArray, List.set_cons_zero, List.set_cons_succ]
            refine tk_ (i := 18) (oi := ⟨some 52, _, _, _, _, some (13, false)⟩) (v := ?v108) rfl (by rfl) ?y108 (by with_reducible assumption) ?r108
            case y108 => (intro V_ hSw; (try dsimp only at hSw); go_simp; (try with_reducible rfl))
            try simp only [Act.put, List.setIfInBounds_toArray, List.set_cons_zero, List.set_cons_succ]
            refine tk_ (i := 19) (oi := ⟨some 53, _, _, _, _, some (13, false)⟩) (v := ?v109) rfl (by rfl) ?y109 (by with_reducible assumption) ?r109
            case y109 => (intro V_ hSw; (try dsimp only at hSw); go_simp; (try with_reducible rfl))
            try simp only [Act.put, List.setIfInBounds_toArray, List.set_cons_zero, List.set_cons_succ]
            refine tk_ (i := 20) (oi := ⟨some 54, _, _, _, _, some (13, false)⟩) (v := ?v110) rfl (by rfl) ?y110 (by with_reducible assumption) ?r110
            case y110 => (intro V_ hSw; (try dsimp only at hSw); go_simp; (try with_reducible rfl))
            try simp only [Act.put, List.setIfInBounds_toArray, List.set_cons_zero, List.set_cons_succ]
            refine tk_ (i := 21) (oi := ⟨some 55, _, _, _, _, some (13, false)⟩) (v := ?v111) rfl (by rfl) ?y111 (by with_reducible assumption) ?r111
            case y111 => (intro V_ hSw; (try dsimp only at hSw); go_simp; (try with_reducible rfl))
            try simp only [Act.put, List.setIfInBounds_toArray, List.set_cons_zero, List.set_cons_succ]
            refine tk_ (i := 22) (oi := ⟨some 56, _, _, _, _, some (13, false)⟩) (v := ?v112) rfl (by rfl) ?y112 (by with_reducible assumption) ?r112
            case y112 => (intro V_ hSw; (try dsimp only at hSw); go_simp; (try with_reducible rfl))
            try simp only [Act.put, List.setIfInBounds_toArray, List.set_cons_zero, List.set_cons_succ]
            refine tk_ (i := 23) (oi := ⟨some 57, _, _, _, _, some (13, false)⟩) (v := ?v113) rfl (by rfl) ?y113 (by with_reducible assumption) ?r113
            case y113 => (intro V_ hSw; (try dsimp only at hSw); go_simp; (try with_reducible rfl))
            try simp only [Act.put, List.setIfInBounds_toArray, List.set_cons_zero, List.set_cons_succ]
            refine tk_ (i := 24) (oi := ⟨some 58, _, _, _, _, some (10, true)⟩) (v := ?v114) rfl (by rfl) ?y114 (by with_reducible assumption) ?r114
            case y114 => (intro V_ hSw; (try dsimp only at hSw); go_simp; (try with_reducible rfl))
            try simp only [Act.put, List.setIfInBounds_toArray, List.set_cons_zero, List.set_cons_succ]
            refine tk_ (i := 25) (oi := ⟨some 59, _, _, _, _, none⟩) (v := ?v115) rfl (by rfl) ?y115 (by with_reducible assumption) ?r115
            case y115 => (intro V_ hSw; (try dsimp only at hSw); go_simp; (try with_reducible rfl))
            try simp only [Act.put, List.setIfInBounds_toArray, List.set_cons_zero, List.set_cons_succ]
            refine wpAnyH_done (by kernel_rfl) ?_ _
            refine NoPanic.normal ?_
            clear hHeld
            rename World => w8
            go_upto_region 11 with fail
            refine wp_region_noPanic ?_
            refine wp_region_held_drew (S := (fun V => (V.cell? (ad.add (i * 5)) = some (.string y.s.f0) ∧ V.cell? ⟨(ad.add (i * 5)).block, (ad.add (i * 5)).off + 1, none⟩ = some (.string y.s.f1) ∧ V.cell? ⟨(ad.add (i * 5)).block, (ad.add (i * 5)).off + 2, none⟩ = some (.int .i64 y.at_.1) ∧ V.cell? ⟨(ad.add (i * 5)).block, (ad.add (i * 5)).off + 3, none⟩ = some (.int .i64 y.at_.2) ∧ V.cell? ⟨(ad.add (i * 5)).block, (ad.add (i * 5)).off + 4, none⟩ = some (.int .i64 y.o)) ∧ V.cell? ⟨g, 2, none⟩ = some (.slice (some ad) t.l.length c))) (by kernel_rfl) ⟨HLC.out _ (below_step HB.out (below_drew1 (Below.refl _ _))), (blk_cell (td_kept HT.out.box (below_drew1 (Below.refl _ _))) 2).trans rfl⟩ (fun hHeld => ?_)
            generalize hwd : World.drew _ = wd at hHeld ⊢
            have hb : Below w8.heap.size w8 wd := by rw [← hwd]; exact below_drew1 (Below.refl _ _)
            clear hwd
            have HX_ := Aside0.mk (td_kept HX.out hb)
            clear HX
            have HX := Aside0.mk HX_.out
            clear HX_
            have HZ_ := Aside0.mk (td_kept HZ.out hb)
            clear HZ
            have HZ := Aside0.mk HZ_.out
            clear HZ_
            have HT_ := Aside0.mk (HT.out.step hb)
            clear HT
            have HT := Aside0.mk HT_.out
            clear HT_
            have HB_ := Aside0.mk (below_step HB.out hb)
            clear HB
            have HB := Aside0.mk HB_.out
            clear HB_
            have HO_ := Aside0.mk (td_kept HO.out hb)
            clear HO
            have HO := Aside0.mk HO_.out
            clear HO_
            clear hb
            refine tk_ (i := 1) (oi := ⟨some 61, _, _, _, _, none⟩) (v := ?v116) rfl (by rfl) ?y116 (by with_reducible assumption) ?r116
            case y116 => (intro V_ hSw; (try dsimp only at hSw); go_simp; (try with_reducible rfl))
            try simp only [Act.put, List.setIfInBounds_toArray, List.set_cons_zero, List.set_cons_succ]
            refine tk_ (i := 2) (oi := ⟨some 62, _, _, _, _, none⟩) (v := ?v117) rfl (by rfl) ?y117 (by with_reducible assumption) ?r117
            case y117 => (intro V_ hSw; (try dsimp only at hSw); go_simp; (try with_reducible rfl))
            try simp only [Act.put, List.setIfInBounds_toArray, List.set_cons_zero, List.set_cons_succ]
            refine tk_ (i := 3) (oi := ⟨some 63, _, _, _, _, none⟩) (v := ?v118) rfl (by rfl) ?y118 (by with_reducible assumption) ?r118
            case y118 => (intro V_ hSw; (try dsimp only at hSw); go_simp; (try with_reducible rfl))
            try simp only [Act.put, List.setIfInBounds_toArray, List.set_cons_zero, List.set_cons_succ]
            refine tk_ (i := 4) (oi := ⟨some 64, _, _, _, _, none⟩) (v := ?v119) rfl (by rfl) ?y119 (by with_reducible assumption) ?r119
            case y119 => (intro V_ hSw; (try dsimp only at hSw); go_simp; (try with_reducible rfl))
            try simp only [Act.put, List.setIfInBounds_toArray, List.set_cons_zero, List.set_cons_succ]
            refine tk_ (i := 5) (oi := ⟨some 65, _, _, _, _, none⟩) (v := ?v120) rfl (by rfl) ?y120 (by with_reducible assumption) ?r120
            case y120 => (intro V_ hSw; (try dsimp only at hSw); go_simp; (try with_reducible rfl))
            try simp only [Act.put, List.setIfInBounds_toArray, List.set_cons_zero, List.set_cons_succ]
            refine tk_ (i := 6) (oi := ⟨some 66, _, _, _, _, none⟩) (v := ?v121) rfl (by rfl) ?y121 (by with_reducible assumption) ?r121
            case y121 => (intro V_ hSw; (try dsimp only at hSw); go_simp; (try with_reducible rfl))
            try simp only [Act.put, List.setIfInBounds_toArray, List.set_cons_zero, List.set_cons_succ]
            refine tk_ (i := 7) (oi := ⟨some 67, _, _, _, _, none⟩) (v := ?v122) rfl (by rfl) ?y122 (by with_reducible assumption) ?r122
            case y122 => (intro V_ hSw; (try dsimp only at hSw); go_simp; (try with_reducible rfl))
            try simp only [Act.put, List.setIfInBounds_toArray, List.set_cons_zero, List.set_cons_succ]
            refine tk_ (i := 8) (oi := ⟨some 68, _, _, _, _, none⟩) (v := ?v123) rfl (by rfl) ?y123 (by with_reducible assumption) ?r123
            case y123 => (intro V_ hSw; (try dsimp only at hSw); go_simp; (try with_reducible rfl))
            try simp only [Act.put, List.setIfInBounds_toArray, List.set_cons_zero, List.set_cons_succ]
            refine wpAnyH_ready (rs := [0]) (by kernel_rfl) (by simp) (AllReadyH.cons (o := ⟨some 60, _, _, _, _, none⟩) rfl (fun K hK => ?_) AllReadyH.nil)
            have o0 : wd.cell? ⟨m4, 0, none⟩ = some (.int .i64 m.1) := (blk_cell HO.out 0).trans rfl
            have o1 : wd.cell? ⟨m4, 1, none⟩ = some (.int .i64 m.2) := (blk_cell HO.out 1).trans rfl
            go_simp
            clear o0 o1
            refine hK.out _ _ hHeld (fun hHeld => ?_)
            clear hK K
            try simp only [Act.put, List.setIfInBounds_toArray, List.set_cons_zero, List.set_cons_succ]
            refine wpAnyH_ready (rs := [9]) (by kernel_rfl) (by simp) (AllReadyH.cons (o := ⟨some 69, _, _, _, _, none⟩) rfl (fun K hK => ?_) AllReadyH.nil)
            go_simp
            refine (rl_two m y.at_ _).mono ?_
            rintro e w9 ⟨rfl, hb⟩
            have HX_ := Aside0.mk (td_kept HX.out hb)
            clear HX
            have HX := Aside0.mk HX_.out
            clear HX_
            have HZ_ := Aside0.mk (td_kept HZ.out hb)
            clear HZ
            have HZ := Aside0.mk HZ_.out
            clear HZ_
            have HT_ := Aside0.mk (HT.out.step hb)
            clear HT
            have HT := Aside0.mk HT_.out
            clear HT_
            have HB_ := Aside0.mk (below_step HB.out hb)
            clear HB
            have HB := Aside0.mk HB_.out
            clear HB_
            have HO_ := Aside0.mk (td_kept HO.out hb)
            clear HO
            have HO := Aside0.mk HO_.out
            clear HO_
            clear hb
            refine hK.out _ _ ⟨HLC.out _ (below_step HB.out (Below.refl _ _)), (blk_cell (td_kept HT.out.box (Below.refl _ _)) 2).trans rfl⟩ (fun hHeld => ?_)
            clear hK K
            try simp only [Act.put, List.setIfInBounds_toArray, List.set_cons_zero, List.set_cons_succ]
            refine wpAnyH_ready (rs := [10]) (by kernel_rfl) (by simp) (AllReadyH.cons (o := ⟨none, _, _, _, _, none⟩) rfl (fun K hK => ?_) AllReadyH.nil)
            have o0 : w9.cell? ⟨m4, 0, none⟩ = some (.int .i64 m.1) := (blk_cell HO.out 0).trans rfl
            have o1 : w9.cell? ⟨m4, 1, none⟩ = some (.int .i64 m.2) := (blk_cell HO.out 1).trans rfl
            have f0 := blk_frozen HO.out 0
            have f1 := blk_frozen HO.out 1
            go_simp
            clear o0 o1 f0 f1
            have ho1 := blk_put (cs' := #[.int .i64 (tmx m y.at_).1, .int .i64 m.2]) HO.out 0 (.int .i64 (tmx m y.at_).1) rfl
            have ho2 := blk_put (cs' := #[.int .i64 (tmx m y.at_).1, .int .i64 (tmx m y.at_).2]) ho1 1 (.int .i64 (tmx m y.at_).2) rfl
            have HT_ := Aside0.mk ((HT.out.far HO.out (i := 0) (by decide) HW0.out HNG.out (.int .i64 (tmx m y.at_).1)).far ho1 (i := 1) (by decide) HW0.out HNG.out (.int .i64 (tmx m y.at_).2))
            have HB_ := Aside0.mk (Below.setCell (Below.setCell HB.out (p := ⟨m4, 0, none⟩) HNO.out (.int .i64 (tmx m y.at_).1)) (p := ⟨m4, 1, none⟩) HNO.out (.int .i64 (tmx m y.at_).2))
            have HX_ := Aside0.mk (blk_far (blk_far HX.out (p := ⟨m4, 0, none⟩) HNX.out (.int .i64 (tmx m y.at_).1)) (p := ⟨m4, 1, none⟩) HNX.out (.int .i64 (tmx m y.at_).2))
            have HZ_ := Aside0.mk (blk_far (blk_far HZ.out (p := ⟨m4, 0, none⟩) HNZ.out (.int .i64 (tmx m y.at_).1)) (p := ⟨m4, 1, none⟩) HNZ.out (.int .i64 (tmx m y.at_).2))
            have HO_1 := Aside0.mk ho2
            clear ho1 ho2 HT HB HX HZ HO
            have HT := Aside0.mk HT_.out
            have HB := Aside0.mk HB_.out
            have HX := Aside0.mk HX_.out
            have HZ := Aside0.mk HZ_.out
            have HO := Aside0.mk HO_1.out
            clear HT_ HB_ HX_ HZ_ HO_1
            refine hK.out _ _ ⟨HLC.out _ HB.out, (blk_cell HT.out.box 2).trans rfl⟩ (fun hHeld => ?_)
            clear hK K
            try simp only [Act.put, List.setIfInBounds_toArray, List.set_cons_zero, List.set_cons_succ]
            refine wpAnyH_done (by kernel_rfl) ?_ _
            refine NoPanic.normal ?_
            clear hHeld
            go_wp2_with fail
            go_roundg (t.l.length - i)
            case measure => have h1 := HI.out; have h2 := HLT.out; omega
            case rel => exact ⟨i + 1, tmx m y.at_, congrArg (Value.int .i64) (by first | exact HWI.out | exact HWI2.out | rfl | omega), ⟨by have h1 := HI.out; have h2 := HLT.out; omega⟩, ⟨HLT.out⟩, ⟨by have h1 := HMD.out; rw [if_pos (by exact HAS.out)] at h1; exact h1.symm.trans HM.out⟩, HT, HB, HX, HZ, HO⟩
theorem rt_max (W0 W : World) (g : Nat) (t : Td S24) (s : S24) (o : Int) (h : RtAt W0 W g t) : Calls Try.prog 22 #[.pointer (some ⟨g, 0, none⟩), .agg #[.string s.f0, .string s.f1], .int .i64 o] W fun e w' => e = .returned (.tuple #[.agg #[.int .i64 (t.maxF s o).1.1, .int .i64 (t.maxF s o).1.2], .int .i64 (t.maxF s o).2]) ∧ Below W.heap.size W w' := by
  obtain ⟨A, c, h⟩ := h
  unfold Td.maxF
  by_cases hs : spErr s = 0
  · rw [if_neg (by simpa using hs)]
    by_cases ho : own o = true
    · rw [if_pos ho]; exact (rt_max_ok W0 W g t A c s o h hs ho).mono (fun _ _ h => h)
    · rw [if_neg ho]; exact (rt_max_bad2 W0 W g t A c s o h hs (by simpa using ho)).mono (fun _ _ h => h)
  · rw [if_pos hs]; exact (rt_max_bad1 W0 W g t A c s o h hs).mono (fun _ _ h => h)
end Go.Proofs.Ytaccfbpfennjkaa.PTideDoes

