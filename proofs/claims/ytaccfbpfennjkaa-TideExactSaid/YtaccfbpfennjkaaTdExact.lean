/- TideExact: as long as at most 64 reads are added, Max is just the greatest stamp of those that meet, of other owners, or the low water: the walk (typed by hand). -/
import Derived.Test.YtaccfbpfennjkaaTdHolds
namespace Go.Proofs.Ytaccfbpfennjkaa.PTideDoes
open Go.RowKit Go.Proofs.YtaccfbpfennjkaaW.PrintWords Go.Proofs.YtaccfbpfennjkaaW.PrintLast Go.Proofs.YtaccfbpfennjkaaW.PrintMore
attribute [local go_sem] max2_int min2_int max_two min_two max_three min_three max_four min_four   -- for this text's walks alone
set_option linter.unusedVariables false
set_option linter.unusedSimpArgs false
set_option maxHeartbeats 16000000 in
set_option maxRecDepth 100000 in
theorem ke_walk (l0 : List S33) (s : S24) (o : Int) (A0 : Option Addr) (c0 : Nat) (w : World) (hwf : (l0.length ≤ maxLen ∧ l0.length * 64 ≤ 140737488351232 ∧ ∀ y0 ∈ l0, ((Lit.int .i64 y0.f0).wf = true ∧ (y0.f1.f0.size ≤ 140737488351232 ∧ y0.f1.f1.size ≤ 140737488351232) ∧ ((Lit.int .i64 y0.f2.f0).wf = true ∧ (Lit.int .i64 y0.f2.f1).wf = true) ∧ (Lit.int .i64 y0.f3).wf = true))) (hr0 : Kd.C k33 w A0 l0.length l0) :
    Calls Try.prog 7 #[.slice A0 l0.length c0, .agg #[.string s.f0, .string s.f1], .int .i64 o] w fun e w' => e = .returned (.bool true) ∧ Below w.heap.size w w' := by
  have HR0 := Aside0.mk hr0
  have HLM := Aside0.mk hwf.2.1
  clear hr0 hwf
  go_enter Try.func7, Try.ntmps7
  go_upto_region 1 with fail
  generalize hw1 : World.alloc w _ = w1
  have HB := Aside0.mk (show Below w.heap.size w w1 from by rw [← hw1]; exact td_alloc w _)
  have HX := Aside0.mk (show w1.heap[w.heap.size]? = some (.cells #[.string s.f0, .string s.f1] 24 (0, 0)) from by rw [← hw1]; exact blk_new w _)
  clear hw1
  obtain ⟨n, hn⟩ : ∃ n, w.heap.size = n := ⟨_, rfl⟩
  have HNW := Aside0.mk hn
  rw [hn] at HX ⊢
  clear hn
  go_wp2_with fail
  refine (td_works _).mono ?_
  rintro e w2 ⟨rfl, hb⟩
  have HX_ := Aside0.mk (td_kept HX.out hb)
  clear HX
  have HX := Aside0.mk HX_.out
  clear HX_
  have HB_ := Aside0.mk (below_step HB.out hb)
  clear HB
  have HB := Aside0.mk HB_.out
  clear HB_
  clear hb
  go_wp2_with fail
  refine (scriptoriumlaw17_at.calls 4 0 4 0 _ rfl).mono ?_
  rintro e wn ⟨rfl, hb⟩
  have HX_ := Aside0.mk (td_kept HX.out hb)
  clear HX
  have HX := Aside0.mk HX_.out
  clear HX_
  have HB_ := Aside0.mk (below_step HB.out hb)
  clear HB
  have HB := Aside0.mk HB_.out
  clear HB_
  clear hb
  go_wp2_with fail
  refine (td_new (4, 0) _ (by kernel_rfl)).mono ?_
  rintro e w3 ⟨g, rfl, hT⟩
  have HW2 := Aside0.mk HB.out
  have HX_ := Aside0.mk (td_kept HX.out hT.below)
  have HNG := Aside0.mk (show some n ≠ some g from by intro e; injection e with e; have h1 := blk_lt HX.out; have h2 := hT.own; omega)
  clear HX HB
  have HX := Aside0.mk HX_.out
  have HT := Aside0.mk (show TdAt wn w3 g (⟨(4, 0), []⟩ : Td S24) from hT)
  clear HX_ hT
  go_wp2_with fail
  refine (scriptoriumlaw17_at.calls 4 0 4 0 _ rfl).mono ?_
  rintro e w4 ⟨rfl, hb⟩
  have HX_ := Aside0.mk (td_kept HX.out hb)
  clear HX
  have HX := Aside0.mk HX_.out
  clear HX_
  have HT_ := Aside0.mk (HT.out.step hb)
  clear HT
  have HT := Aside0.mk HT_.out
  clear HT_
  clear hb
  go_upto_region 7 with fail
  generalize hw : World.alloc w4 _ = w5
  have HM := Aside0.mk (show w5.heap[w4.heap.size]? = some (.cells #[.int .i64 4, .int .i64 0] 31 (0, 0)) from by rw [← hw]; exact blk_new _ _)
  have hb : Below w4.heap.size w4 w5 := by rw [← hw]; exact td_alloc _ _
  have HMG := Aside0.mk (show some w4.heap.size ≠ some g from by intro e; injection e with e; have h1 := HT.out.lt; omega)
  have HMX := Aside0.mk (show n ≠ w4.heap.size from Nat.ne_of_lt (blk_lt HX.out))
  have HMN := Aside0.mk (show wn.heap.size ≤ w4.heap.size from HT.out.below.size)
  clear hw
  have HX_ := Aside0.mk (td_kept HX.out hb)
  clear HX
  have HX := Aside0.mk HX_.out
  clear HX_
  have HT_ := Aside0.mk (HT.out.step hb)
  clear HT
  have HT := Aside0.mk HT_.out
  clear HT_
  clear hb
  generalize w4.heap.size = gm at HM HMG HMX HMN ⊢
  obtain ⟨t, ht⟩ : ∃ t, (⟨(4, 0), []⟩ : Td S24) = t := ⟨_, rfl⟩
  have HI := Aside0.mk (show t.l.length ≤ 0 ∧ t.low = (4, 0) ∧ Td.max (asks s o) t.low t.l = (4, 0) from by rw [← ht]; exact ⟨Nat.le_refl _, rfl, rfl⟩)
  rw [ht] at HT
  clear ht
  go_wp2_with fail
  go_loopg [10] 65 (fun kq v wr => ∃ (i : Nat) (t : Td S24) (m : Int × Int), v = .int .i64 (i : Int) ∧ Aside0 (i + kq = 65) ∧ Aside0 (t.l.length ≤ i ∧ t.low = (4, 0) ∧ Td.max (asks s o) t.low t.l = m) ∧ Aside0 (TdAt wn wr g t) ∧ Aside0 (wr.heap[n]? = some (.cells #[.string s.f0, .string s.f1] 24 (0, 0))) ∧ Aside0 (wr.heap[gm]? = some (.cells #[.int .i64 m.1, .int .i64 m.2] 31 (0, 0))))
  case atStart => exact ⟨0, t, (4, 0), rfl, ⟨rfl⟩, HI, HT, HX, HM⟩
  case round =>
    clear HI HT HX HM
    obtain ⟨i, t, m, rfl, HK, HI, HT, HX, HM⟩ := hrel
    by_cases hgo : i < l0.length ∧ i < 64
    case pos =>
      obtain ⟨h1, h2⟩ := hgo
      have d1 : decide ((i : Int) < (l0.length : Int)) = true := decide_eq_true (by omega)
      have d1n : decide (i < l0.length) = true := decide_eq_true (by omega)
      have d2 : decide ((i : Int) < 64) = true := decide_eq_true (by omega)
      have d2n : decide (i < 64) = true := decide_eq_true (by omega)
      obtain ⟨ad2, ea, d, hd, hld⟩ := ld_T33 HR0.out i h1
      cases ea
      have HCL := Aside0.mk (fun (V : World) (hb : Below w.heap.size w V) => (show V.cell? (ad2.add (i * 6)) = some (.int .i64 d.f0) ∧ V.cell? ⟨(ad2.add (i * 6)).block, (ad2.add (i * 6)).off + 1, none⟩ = some (.string d.f1.f0) ∧ V.cell? ⟨(ad2.add (i * 6)).block, (ad2.add (i * 6)).off + 2, none⟩ = some (.string d.f1.f1) ∧ V.cell? ⟨(ad2.add (i * 6)).block, (ad2.add (i * 6)).off + 3, none⟩ = some (.int .i64 d.f2.f0) ∧ V.cell? ⟨(ad2.add (i * 6)).block, (ad2.add (i * 6)).off + 4, none⟩ = some (.int .i64 d.f2.f1) ∧ V.cell? ⟨(ad2.add (i * 6)).block, (ad2.add (i * 6)).off + 5, none⟩ = some (.int .i64 d.f3) from ⟨by have q := hld V hb 0 _ rfl; exact q, by have q := hld V hb 1 _ rfl; rw [add_field _ _ 1 (by omega)] at q; exact q, by have q := hld V hb 2 _ rfl; rw [add_field _ _ 2 (by omega)] at q; exact q, by have q := hld V hb 3 _ rfl; rw [add_field _ _ 3 (by omega)] at q; exact q, by have q := hld V hb 4 _ rfl; rw [add_field _ _ 4 (by omega)] at q; exact q, by have q := hld V hb 5 _ rfl; rw [add_field _ _ 5 (by omega)] at q; exact q⟩))
      have HH := Aside0.mk (And.intro h1 h2)
      have p0 := eq_true (show (0 : Int) ≤ (i : Int) by omega)
      have q0 := eq_true (show (i : Int) < (l0.length : Int) by omega)
      have q0n := eq_true h1
      have hwi : Go.RowKit.wrap64 ((i : Int) + 1) = ((i + 1 : Nat) : Int) := by
        unfold Go.RowKit.wrap64
        omega
      have HWI := Aside0.mk hwi
      have HWI2 := Aside0.mk ((i64_w ((i : Int) + 1)).trans hwi)
      clear hwi h1 h2 hd hld
      by_cases herr : addErr d.f1 (d.f2.f0, d.f2.f1) d.f3 = 0
      case neg =>
        have HERR := Aside0.mk herr
        have e1 : (addErr d.f1 (d.f2.f0, d.f2.f1) d.f3 == 0) = false := beq_eq_false_iff_ne.mpr herr
        clear herr
        obtain ⟨t', ht'⟩ : ∃ t', t = t' := ⟨_, rfl⟩
        subst ht'
        go_upto_region 10 with fail
        refine wp_region_noPanic ?_
        refine wp_region_held_drew (S := (fun V => (V.cell? (ad2.add (i * 6)) = some (.int .i64 d.f0) ∧ V.cell? ⟨(ad2.add (i * 6)).block, (ad2.add (i * 6)).off + 1, none⟩ = some (.string d.f1.f0) ∧ V.cell? ⟨(ad2.add (i * 6)).block, (ad2.add (i * 6)).off + 2, none⟩ = some (.string d.f1.f1) ∧ V.cell? ⟨(ad2.add (i * 6)).block, (ad2.add (i * 6)).off + 3, none⟩ = some (.int .i64 d.f2.f0) ∧ V.cell? ⟨(ad2.add (i * 6)).block, (ad2.add (i * 6)).off + 4, none⟩ = some (.int .i64 d.f2.f1) ∧ V.cell? ⟨(ad2.add (i * 6)).block, (ad2.add (i * 6)).off + 5, none⟩ = some (.int .i64 d.f3)) ∧ V.cell? ⟨n, 0, none⟩ = some (.string s.f0) ∧ V.cell? ⟨n, 1, none⟩ = some (.string s.f1))) (by kernel_rfl) ⟨HCL.out _ (below_step HW2.out (HT.out.step (below_drew1 (Below.refl _ _))).below), (blk_cell (td_kept HX.out (below_drew1 (Below.refl _ _))) 0).trans rfl, (blk_cell (td_kept HX.out (below_drew1 (Below.refl _ _))) 1).trans rfl⟩ (fun hHeld => ?_)
        generalize hwd : World.drew _ = wd at hHeld ⊢
        have hb : Below wr.heap.size wr wd := by rw [← hwd]; exact below_drew1 (Below.refl _ _)
        clear hwd
        have HX_ := Aside0.mk (td_kept HX.out hb)
        clear HX
        have HX := Aside0.mk HX_.out
        clear HX_
        have HT_ := Aside0.mk (HT.out.step hb)
        clear HT
        have HT := Aside0.mk HT_.out
        clear HT_
        have HM_ := Aside0.mk (td_kept HM.out hb)
        clear HM
        have HM := Aside0.mk HM_.out
        clear HM_
        clear hb
        refine wpAnyH_take (i := 0) (oi := ⟨some 33, _, _, _, _, none⟩) (v := ?v0_1) rfl (by kernel_rfl) (by kernel_rfl) (by kernel_rfl) (fun _ _ _ h => h) (Or.inl ⟨by rfl, ?hy0_1⟩) (by with_reducible assumption) ?rest0_1
        case hy0_1 => (intro V_ hSw; (try dsimp only at hSw); go_simp; (try with_reducible rfl))
        case' rest0_1 => skip
        try simp only [Act.put, List.setIfInBounds_toArray, List.set_cons_zero, List.set_cons_succ]
        refine wpAnyH_take (i := 1) (oi := ⟨some 34, _, _, _, _, none⟩) (v := ?v1_2) rfl (by kernel_rfl) (by kernel_rfl) (by kernel_rfl) (fun _ _ _ h => h) (Or.inl ⟨by rfl, ?hy1_2⟩) (by with_reducible assumption) ?rest1_2
        case hy1_2 => (intro V_ hSw; (try dsimp only at hSw); go_simp; (try with_reducible rfl))
        case' rest1_2 => skip
        try simp only [Act.put, List.setIfInBounds_toArray, List.set_cons_zero, List.set_cons_succ]
        refine wpAnyH_take (i := 2) (oi := ⟨some 35, _, _, _, _, none⟩) (v := ?v2_3) rfl (by kernel_rfl) (by kernel_rfl) (by kernel_rfl) (fun _ _ _ h => h) (Or.inl ⟨by rfl, ?hy2_3⟩) (by with_reducible assumption) ?rest2_3
        case hy2_3 => (intro V_ hSw; (try dsimp only at hSw); go_simp; (try with_reducible rfl))
        case' rest2_3 => skip
        try simp only [Act.put, List.setIfInBounds_toArray, List.set_cons_zero, List.set_cons_succ]
        refine wpAnyH_take (i := 3) (oi := ⟨some 36, _, _, _, _, none⟩) (v := ?v3_4) rfl (by kernel_rfl) (by kernel_rfl) (by kernel_rfl) (fun _ _ _ h => h) (Or.inl ⟨by rfl, ?hy3_4⟩) (by with_reducible assumption) ?rest3_4
        case hy3_4 => (intro V_ hSw; (try dsimp only at hSw); go_simp; (try with_reducible rfl))
        case' rest3_4 => skip
        try simp only [Act.put, List.setIfInBounds_toArray, List.set_cons_zero, List.set_cons_succ]
        refine wpAnyH_take (i := 4) (oi := ⟨some 37, _, _, _, _, none⟩) (v := ?v4_5) rfl (by kernel_rfl) (by kernel_rfl) (by kernel_rfl) (fun _ _ _ h => h) (Or.inl ⟨by rfl, ?hy4_5⟩) (by with_reducible assumption) ?rest4_5
        case hy4_5 => (intro V_ hSw; (try dsimp only at hSw); go_simp; (try with_reducible rfl))
        case' rest4_5 => skip
        try simp only [Act.put, List.setIfInBounds_toArray, List.set_cons_zero, List.set_cons_succ]
        refine wpAnyH_take (i := 5) (oi := ⟨some 38, _, _, _, _, none⟩) (v := ?v5_6) rfl (by kernel_rfl) (by kernel_rfl) (by kernel_rfl) (fun _ _ _ h => h) (Or.inl ⟨by rfl, ?hy5_6⟩) (by with_reducible assumption) ?rest5_6
        case hy5_6 => (intro V_ hSw; (try dsimp only at hSw); go_simp; (try with_reducible rfl))
        case' rest5_6 => skip
        try simp only [Act.put, List.setIfInBounds_toArray, List.set_cons_zero, List.set_cons_succ]
        refine wpAnyH_take (i := 6) (oi := ⟨some 39, _, _, _, _, none⟩) (v := ?v6_7) rfl (by kernel_rfl) (by kernel_rfl) (by kernel_rfl) (fun _ _ _ h => h) (Or.inl ⟨by rfl, ?hy6_7⟩) (by with_reducible assumption) ?rest6_7
        case hy6_7 => (intro V_ hSw; (try dsimp only at hSw); go_simp; (try with_reducible rfl))
        case' rest6_7 => skip
        try simp only [Act.put, List.setIfInBounds_toArray, List.set_cons_zero, List.set_cons_succ]
        refine wpAnyH_take (i := 7) (oi := ⟨some 40, _, _, _, _, none⟩) (v := ?v7_8) rfl (by kernel_rfl) (by kernel_rfl) (by kernel_rfl) (fun _ _ _ h => h) (Or.inl ⟨by rfl, ?hy7_8⟩) (by with_reducible assumption) ?rest7_8
        case hy7_8 => (intro V_ hSw; (try dsimp only at hSw); go_simp; (try with_reducible rfl))
        case' rest7_8 => skip
        try simp only [Act.put, List.setIfInBounds_toArray, List.set_cons_zero, List.set_cons_succ]
        refine wpAnyH_take (i := 8) (oi := ⟨some 41, _, _, _, _, none⟩) (v := ?v8_9) rfl (by kernel_rfl) (by kernel_rfl) (by kernel_rfl) (fun _ _ _ h => h) (Or.inl ⟨by rfl, ?hy8_9⟩) (by with_reducible assumption) ?rest8_9
        case hy8_9 => (intro V_ hSw; (try dsimp only at hSw); go_simp; (try with_reducible rfl))
        case' rest8_9 => skip
        try simp only [Act.put, List.setIfInBounds_toArray, List.set_cons_zero, List.set_cons_succ]
        refine wpAnyH_take (i := 9) (oi := ⟨some 42, _, _, _, _, none⟩) (v := ?v9_10) rfl (by kernel_rfl) (by kernel_rfl) (by kernel_rfl) (fun _ _ _ h => h) (Or.inl ⟨by rfl, ?hy9_10⟩) (by with_reducible assumption) ?rest9_10
        case hy9_10 => (intro V_ hSw; (try dsimp only at hSw); go_simp; (try with_reducible rfl))
        case' rest9_10 => skip
        try simp only [Act.put, List.setIfInBounds_toArray, List.set_cons_zero, List.set_cons_succ]
        refine wpAnyH_take (i := 10) (oi := ⟨some 43, _, _, _, _, none⟩) (v := ?v10_11) rfl (by kernel_rfl) (by kernel_rfl) (by kernel_rfl) (fun _ _ _ h => h) (Or.inl ⟨by rfl, ?hy10_11⟩) (by with_reducible assumption) ?rest10_11
        case hy10_11 => (intro V_ hSw; (try dsimp only at hSw); go_simp; (try with_reducible rfl))
        case' rest10_11 => skip
        try simp only [Act.put, List.setIfInBounds_toArray, List.set_cons_zero, List.set_cons_succ]
        refine wpAnyH_take (i := 11) (oi := ⟨some 44, _, _, _, _, none⟩) (v := ?v11_12) rfl (by kernel_rfl) (by kernel_rfl) (by kernel_rfl) (fun _ _ _ h => h) (Or.inl ⟨by rfl, ?hy11_12⟩) (by with_reducible assumption) ?rest11_12
        case hy11_12 => (intro V_ hSw; (try dsimp only at hSw); go_simp; (try with_reducible rfl))
        case' rest11_12 => skip
        try simp only [Act.put, List.setIfInBounds_toArray, List.set_cons_zero, List.set_cons_succ]
        refine wpAnyH_take (i := 12) (oi := ⟨some 45, _, _, _, _, none⟩) (v := ?v12_13) rfl (by kernel_rfl) (by kernel_rfl) (by kernel_rfl) (fun _ _ _ h => h) (Or.inl ⟨by rfl, ?hy12_13⟩) (by with_reducible assumption) ?rest12_13
        case hy12_13 => (intro V_ hSw; (try dsimp only at hSw); go_simp; (try with_reducible rfl))
        case' rest12_13 => skip
        try simp only [Act.put, List.setIfInBounds_toArray, List.set_cons_zero, List.set_cons_succ]
        refine wpAnyH_take (i := 13) (oi := ⟨some 46, _, _, _, _, none⟩) (v := ?v13_14) rfl (by kernel_rfl) (by kernel_rfl) (by kernel_rfl) (fun _ _ _ h => h) (Or.inl ⟨by rfl, ?hy13_14⟩) (by with_reducible assumption) ?rest13_14
        case hy13_14 => (intro V_ hSw; (try dsimp only at hSw); go_simp; (try with_reducible rfl))
        case' rest13_14 => skip
        try simp only [Act.put, List.setIfInBounds_toArray, List.set_cons_zero, List.set_cons_succ]
        refine wpAnyH_take (i := 14) (oi := ⟨some 47, _, _, _, _, none⟩) (v := ?v14_15) rfl (by kernel_rfl) (by kernel_rfl) (by kernel_rfl) (fun _ _ _ h => h) (Or.inl ⟨by rfl, ?hy14_15⟩) (by with_reducible assumption) ?rest14_15
        case hy14_15 => (intro V_ hSw; (try dsimp only at hSw); go_simp; (try with_reducible rfl))
        case' rest14_15 => skip
        try simp only [Act.put, List.setIfInBounds_toArray, List.set_cons_zero, List.set_cons_succ]
        refine wpAnyH_take (i := 15) (oi := ⟨some 48, _, _, _, _, none⟩) (v := ?v15_16) rfl (by kernel_rfl) (by kernel_rfl) (by kernel_rfl) (fun _ _ _ h => h) (Or.inl ⟨by rfl, ?hy15_16⟩) (by with_reducible assumption) ?rest15_16
        case hy15_16 => (intro V_ hSw; (try dsimp only at hSw); go_simp; (try with_reducible rfl))
        case' rest15_16 => skip
        try simp only [Act.put, List.setIfInBounds_toArray, List.set_cons_zero, List.set_cons_succ]
        refine wpAnyH_ready (rs := [16]) (by kernel_rfl) (by simp) ?_
        refine AllReadyH.cons (o := ⟨some 49, _, _, _, _, none⟩) rfl (fun K hK => ?_) ?_
        · go_simp
          refine (td_add wn wd g t d.f1 (d.f2.f0, d.f2.f1) d.f3 HT.out (by have h1 := HI.out.1; have h2 := HH.out.2; omega)).mono ?_
          rintro e w7 ⟨rfl, hT, hN⟩
          have HX_ := Aside0.mk (hN.blk HX.out HNG.out (by decide))
          clear HX
          have HX := Aside0.mk HX_.out
          clear HX_
          have HM_ := Aside0.mk (hN.blk HM.out HMG.out (by decide))
          clear HM
          have HM := Aside0.mk HM_.out
          clear HM_
          clear HT
          have HT := Aside0.mk hT
          clear hT hN
          have hq := HT.out
          rw [if_neg HERR.out] at hq
          clear HT
          have HT := Aside0.mk hq
          clear hq
          refine hK.out _ _ ⟨HCL.out _ (below_step HW2.out HT.out.below), (blk_cell HX.out 0).trans rfl, (blk_cell HX.out 1).trans rfl⟩ (fun hHeld => ?_)
          clear hK K
          try simp only [Act.put, List.setIfInBounds_toArray, List.set_cons_zero, List.set_cons_succ]
          refine wpAnyH_take (i := 17) (oi := ⟨some 50, _, _, _, _, none⟩) (v := ?v17_17) rfl (by kernel_rfl) (by kernel_rfl) (by kernel_rfl) (fun _ _ _ h => h) (Or.inl ⟨by rfl, ?hy17_17⟩) (by with_reducible assumption) ?rest17_17
          case hy17_17 => (intro V_ hSw; (try dsimp only at hSw); go_simp; (try with_reducible rfl))
          case' rest17_17 => skip
          try simp only [Act.put, List.setIfInBounds_toArray, List.set_cons_zero, List.set_cons_succ]
          refine wpAnyH_take (i := 18) (oi := ⟨some 51, _, _, _, _, none⟩) (v := ?v18_18) rfl (by kernel_rfl) (by kernel_rfl) (by kernel_rfl) (fun _ _ _ h => h) (Or.inl ⟨by rfl, ?hy18_18⟩) (by with_reducible assumption) ?rest18_18
          case hy18_18 => (intro V_ hSw; (try dsimp only at hSw); go_simp; (try with_reducible rfl))
          case' rest18_18 => skip
          try simp only [Act.put, List.setIfInBounds_toArray, List.set_cons_zero, List.set_cons_succ]
          refine wpAnyH_take (i := 19) (oi := ⟨some 52, _, _, _, _, some (18, true)⟩) rfl (by kernel_rfl) (by kernel_rfl) (by kernel_rfl) (fun _ _ _ h => h) (Or.inr ⟨by rfl, rfl⟩) (by with_reducible assumption) ?_
          try simp only [Act.put, List.setIfInBounds_toArray, List.set_cons_zero, List.set_cons_succ]
          refine wpAnyH_take (i := 20) (oi := ⟨some 53, _, _, _, _, some (18, true)⟩) rfl (by kernel_rfl) (by kernel_rfl) (by kernel_rfl) (fun _ _ _ h => h) (Or.inr ⟨by rfl, rfl⟩) (by with_reducible assumption) ?_
          try simp only [Act.put, List.setIfInBounds_toArray, List.set_cons_zero, List.set_cons_succ]
          refine wpAnyH_take (i := 21) (oi := ⟨some 54, _, _, _, _, some (18, true)⟩) rfl (by kernel_rfl) (by kernel_rfl) (by kernel_rfl) (fun _ _ _ h => h) (Or.inr ⟨by rfl, rfl⟩) (by with_reducible assumption) ?_
          try simp only [Act.put, List.setIfInBounds_toArray, List.set_cons_zero, List.set_cons_succ]
          refine wpAnyH_take (i := 22) (oi := ⟨some 55, _, _, _, _, some (18, true)⟩) rfl (by kernel_rfl) (by kernel_rfl) (by kernel_rfl) (fun _ _ _ h => h) (Or.inr ⟨by rfl, rfl⟩) (by with_reducible assumption) ?_
          try simp only [Act.put, List.setIfInBounds_toArray, List.set_cons_zero, List.set_cons_succ]
          refine wpAnyH_take (i := 23) (oi := ⟨some 56, _, _, _, _, some (18, true)⟩) rfl (by kernel_rfl) (by kernel_rfl) (by kernel_rfl) (fun _ _ _ h => h) (Or.inr ⟨by rfl, rfl⟩) (by with_reducible assumption) ?_
          try simp only [Act.put, List.setIfInBounds_toArray, List.set_cons_zero, List.set_cons_succ]
          refine wpAnyH_take (i := 24) (oi := ⟨some 57, _, _, _, _, some (18, true)⟩) rfl (by kernel_rfl) (by kernel_rfl) (by kernel_rfl) (fun _ _ _ h => h) (Or.inr ⟨by rfl, rfl⟩) (by with_reducible assumption) ?_
          try simp only [Act.put, List.setIfInBounds_toArray, List.set_cons_zero, List.set_cons_succ]
          refine wpAnyH_take (i := 25) (oi := ⟨some 58, _, _, _, _, some (18, true)⟩) rfl (by kernel_rfl) (by kernel_rfl) (by kernel_rfl) (fun _ _ _ h => h) (Or.inr ⟨by rfl, rfl⟩) (by with_reducible assumption) ?_
          try simp only [Act.put, List.setIfInBounds_toArray, List.set_cons_zero, List.set_cons_succ]
          refine wpAnyH_take (i := 26) (oi := ⟨some 59, _, _, _, _, none⟩) (v := ?v26_26) rfl (by kernel_rfl) (by kernel_rfl) (by kernel_rfl) (fun _ _ _ h => h) (Or.inl ⟨by rfl, ?hy26_26⟩) (by with_reducible assumption) ?rest26_26
          case hy26_26 => (intro V_ hSw; (try dsimp only at hSw); go_simp; (try with_reducible rfl))
          case' rest26_26 => skip
          try simp only [Act.put, List.setIfInBounds_toArray, List.set_cons_zero, List.set_cons_succ]
          refine wpAnyH_take (i := 27) (oi := ⟨some 60, _, _, _, _, none⟩) (v := ?v27_27) rfl (by kernel_rfl) (by kernel_rfl) (by kernel_rfl) (fun _ _ _ h => h) (Or.inl ⟨by rfl, ?hy27_27⟩) (by with_reducible assumption) ?rest27_27
          case hy27_27 => (intro V_ hSw; (try dsimp only at hSw); go_simp; (try with_reducible rfl))
          case' rest27_27 => skip
          try simp only [Act.put, List.setIfInBounds_toArray, List.set_cons_zero, List.set_cons_succ]
          refine wpAnyH_take (i := 28) (oi := ⟨some 61, _, _, _, _, some (27, true)⟩) rfl (by kernel_rfl) (by kernel_rfl) (by kernel_rfl) (fun _ _ _ h => h) (Or.inr ⟨by rfl, rfl⟩) (by with_reducible assumption) ?_
          try simp only [Act.put, List.setIfInBounds_toArray, List.set_cons_zero, List.set_cons_succ]
          refine wpAnyH_take (i := 29) (oi := ⟨some 62, _, _, _, _, some (27, true)⟩) rfl (by kernel_rfl) (by kernel_rfl) (by kernel_rfl) (fun _ _ _ h => h) (Or.inr ⟨by rfl, rfl⟩) (by with_reducible assumption) ?_
          try simp only [Act.put, List.setIfInBounds_toArray, List.set_cons_zero, List.set_cons_succ]
          refine wpAnyH_take (i := 30) (oi := ⟨some 63, _, _, _, _, some (27, true)⟩) rfl (by kernel_rfl) (by kernel_rfl) (by kernel_rfl) (fun _ _ _ h => h) (Or.inr ⟨by rfl, rfl⟩) (by with_reducible assumption) ?_
          try simp only [Act.put, List.setIfInBounds_toArray, List.set_cons_zero, List.set_cons_succ]
          refine wpAnyH_take (i := 31) (oi := ⟨some 64, _, _, _, _, some (30, false)⟩) rfl (by kernel_rfl) (by kernel_rfl) (by kernel_rfl) (fun _ _ _ h => h) (Or.inr ⟨by rfl, rfl⟩) (by with_reducible assumption) ?_
          try simp only [Act.put, List.setIfInBounds_toArray, List.set_cons_zero, List.set_cons_succ]
          refine wpAnyH_take (i := 32) (oi := ⟨some 65, _, _, _, _, some (30, false)⟩) rfl (by kernel_rfl) (by kernel_rfl) (by kernel_rfl) (fun _ _ _ h => h) (Or.inr ⟨by rfl, rfl⟩) (by with_reducible assumption) ?_
          try simp only [Act.put, List.setIfInBounds_toArray, List.set_cons_zero, List.set_cons_succ]
          refine wpAnyH_take (i := 33) (oi := ⟨some 66, _, _, _, _, some (30, false)⟩) rfl (by kernel_rfl) (by kernel_rfl) (by kernel_rfl) (fun _ _ _ h => h) (Or.inr ⟨by rfl, rfl⟩) (by with_reducible assumption) ?_
          try simp only [Act.put, List.setIfInBounds_toArray, List.set_cons_zero, List.set_cons_succ]
          refine wpAnyH_take (i := 34) (oi := ⟨some 67, _, _, _, _, some (30, false)⟩) rfl (by kernel_rfl) (by kernel_rfl) (by kernel_rfl) (fun _ _ _ h => h) (Or.inr ⟨by rfl, rfl⟩) (by with_reducible assumption) ?_
          try simp only [Act.put, List.setIfInBounds_toArray, List.set_cons_zero, List.set_cons_succ]
          refine wpAnyH_take (i := 35) (oi := ⟨some 68, _, _, _, _, some (30, false)⟩) rfl (by kernel_rfl) (by kernel_rfl) (by kernel_rfl) (fun _ _ _ h => h) (Or.inr ⟨by rfl, rfl⟩) (by with_reducible assumption) ?_
          try simp only [Act.put, List.setIfInBounds_toArray, List.set_cons_zero, List.set_cons_succ]
          refine wpAnyH_take (i := 36) (oi := ⟨some 69, _, _, _, _, some (30, false)⟩) rfl (by kernel_rfl) (by kernel_rfl) (by kernel_rfl) (fun _ _ _ h => h) (Or.inr ⟨by rfl, rfl⟩) (by with_reducible assumption) ?_
          try simp only [Act.put, List.setIfInBounds_toArray, List.set_cons_zero, List.set_cons_succ]
          refine wpAnyH_take (i := 37) (oi := ⟨some 70, _, _, _, _, some (30, false)⟩) rfl (by kernel_rfl) (by kernel_rfl) (by kernel_rfl) (fun _ _ _ h => h) (Or.inr ⟨by rfl, rfl⟩) (by with_reducible assumption) ?_
          try simp only [Act.put, List.setIfInBounds_toArray, List.set_cons_zero, List.set_cons_succ]
          refine wpAnyH_take (i := 38) (oi := ⟨some 71, _, _, _, _, some (27, true)⟩) rfl (by kernel_rfl) (by kernel_rfl) (by kernel_rfl) (fun _ _ _ h => h) (Or.inr ⟨by rfl, rfl⟩) (by with_reducible assumption) ?_
          try simp only [Act.put, List.setIfInBounds_toArray, List.set_cons_zero, List.set_cons_succ]
          refine wpAnyH_take (i := 39) (oi := ⟨some 72, _, _, _, _, none⟩) (v := ?v39_39) rfl (by kernel_rfl) (by kernel_rfl) (by kernel_rfl) (fun _ _ _ h => h) (Or.inl ⟨by rfl, ?hy39_39⟩) (by with_reducible assumption) ?rest39_39
          case hy39_39 => (intro V_ hSw; (try dsimp only at hSw); go_simp; (try with_reducible rfl))
          case' rest39_39 => skip
          try simp only [Act.put, List.setIfInBounds_toArray, List.set_cons_zero, List.set_cons_succ]
          refine wpAnyH_done (by kernel_rfl) ?_ _
          refine NoPanic.normal ?_
          clear hHeld
          go_wp2_with fail
          go_roundg (64 - i)
          case measure => have h1 := HK.out; have h2 := HH.out.2; omega
          case rel => exact ⟨i + 1, t, m, congrArg (Value.int .i64) (by first | exact HWI.out | exact HWI2.out | rfl | omega), ⟨by have h1 := HK.out; have h2 := HH.out.2; omega⟩, ⟨by have h1 := HI.out.1; exact ⟨by omega, HI.out.2⟩⟩, HT, HX, HM⟩
        exact AllReadyH.nil
      case pos =>
        have HERR := Aside0.mk herr
        have HEX0 := Td.add_exact t d.f1 (d.f2.f0, d.f2.f1) d.f3 (by have h1 := HI.out.1; have h2 := HH.out.2; omega) (asks s o) (fun r r' q1 q2 => asks_alike s o r r' q1 q2)
        obtain ⟨t', ht'⟩ : ∃ t', t.add d.f1 (d.f2.f0, d.f2.f1) d.f3 = t' := ⟨_, rfl⟩
        rw [ht'] at HEX0
        have HT' := Aside0.mk ht'
        have HEX := Aside0.mk HEX0
        clear herr ht' HEX0
        obtain ⟨bm, hbm⟩ : ∃ bm, meets d.f1 s = bm := ⟨_, rfl⟩
        have HMT := Aside0.mk hbm
        cases bm
        case false =>
          have HAS := Aside0.mk (show asks s o (⟨d.f1, (d.f2.f0, d.f2.f1), d.f3⟩ : Rd S24) = false from by unfold asks; rw [show ((⟨d.f1, (d.f2.f0, d.f2.f1), d.f3⟩ : Rd S24)).s = d.f1 from rfl, hbm]; rfl)
          clear hbm
          go_upto_region 10 with fail
          refine wp_region_noPanic ?_
          refine wp_region_held_drew (S := (fun V => (V.cell? (ad2.add (i * 6)) = some (.int .i64 d.f0) ∧ V.cell? ⟨(ad2.add (i * 6)).block, (ad2.add (i * 6)).off + 1, none⟩ = some (.string d.f1.f0) ∧ V.cell? ⟨(ad2.add (i * 6)).block, (ad2.add (i * 6)).off + 2, none⟩ = some (.string d.f1.f1) ∧ V.cell? ⟨(ad2.add (i * 6)).block, (ad2.add (i * 6)).off + 3, none⟩ = some (.int .i64 d.f2.f0) ∧ V.cell? ⟨(ad2.add (i * 6)).block, (ad2.add (i * 6)).off + 4, none⟩ = some (.int .i64 d.f2.f1) ∧ V.cell? ⟨(ad2.add (i * 6)).block, (ad2.add (i * 6)).off + 5, none⟩ = some (.int .i64 d.f3)) ∧ V.cell? ⟨n, 0, none⟩ = some (.string s.f0) ∧ V.cell? ⟨n, 1, none⟩ = some (.string s.f1))) (by kernel_rfl) ⟨HCL.out _ (below_step HW2.out (HT.out.step (below_drew1 (Below.refl _ _))).below), (blk_cell (td_kept HX.out (below_drew1 (Below.refl _ _))) 0).trans rfl, (blk_cell (td_kept HX.out (below_drew1 (Below.refl _ _))) 1).trans rfl⟩ (fun hHeld => ?_)
          generalize hwd : World.drew _ = wd at hHeld ⊢
          have hb : Below wr.heap.size wr wd := by rw [← hwd]; exact below_drew1 (Below.refl _ _)
          clear hwd
          have HX_ := Aside0.mk (td_kept HX.out hb)
          clear HX
          have HX := Aside0.mk HX_.out
          clear HX_
          have HT_ := Aside0.mk (HT.out.step hb)
          clear HT
          have HT := Aside0.mk HT_.out
          clear HT_
          have HM_ := Aside0.mk (td_kept HM.out hb)
          clear HM
          have HM := Aside0.mk HM_.out
          clear HM_
          clear hb
          refine wpAnyH_take (i := 0) (oi := ⟨some 33, _, _, _, _, none⟩) (v := ?v0_40) rfl (by kernel_rfl) (by kernel_rfl) (by kernel_rfl) (fun _ _ _ h => h) (Or.inl ⟨by rfl, ?hy0_40⟩) (by with_reducible assumption) ?rest0_40
          case hy0_40 => (intro V_ hSw; (try dsimp only at hSw); go_simp; (try with_reducible rfl))
          case' rest0_40 => skip
          try simp only [Act.put, List.setIfInBounds_toArray, List.set_cons_zero, List.set_cons_succ]
          refine wpAnyH_take (i := 1) (oi := ⟨some 34, _, _, _, _, none⟩) (v := ?v1_41) rfl (by kernel_rfl) (by kernel_rfl) (by kernel_rfl) (fun _ _ _ h => h) (Or.inl ⟨by rfl, ?hy1_41⟩) (by with_reducible assumption) ?rest1_41
          case hy1_41 => (intro V_ hSw; (try dsimp only at hSw); go_simp; (try with_reducible rfl))
          case' rest1_41 => skip
          try simp only [Act.put, List.setIfInBounds_toArray, List.set_cons_zero, List.set_cons_succ]
          refine wpAnyH_take (i := 2) (oi := ⟨some 35, _, _, _, _, none⟩) (v := ?v2_42) rfl (by kernel_rfl) (by kernel_rfl) (by kernel_rfl) (fun _ _ _ h => h) (Or.inl ⟨by rfl, ?hy2_42⟩) (by with_reducible assumption) ?rest2_42
          case hy2_42 => (intro V_ hSw; (try dsimp only at hSw); go_simp; (try with_reducible rfl))
          case' rest2_42 => skip
          try simp only [Act.put, List.setIfInBounds_toArray, List.set_cons_zero, List.set_cons_succ]
          refine wpAnyH_take (i := 3) (oi := ⟨some 36, _, _, _, _, none⟩) (v := ?v3_43) rfl (by kernel_rfl) (by kernel_rfl) (by kernel_rfl) (fun _ _ _ h => h) (Or.inl ⟨by rfl, ?hy3_43⟩) (by with_reducible assumption) ?rest3_43
          case hy3_43 => (intro V_ hSw; (try dsimp only at hSw); go_simp; (try with_reducible rfl))
          case' rest3_43 => skip
          try simp only [Act.put, List.setIfInBounds_toArray, List.set_cons_zero, List.set_cons_succ]
          refine wpAnyH_take (i := 4) (oi := ⟨some 37, _, _, _, _, none⟩) (v := ?v4_44) rfl (by kernel_rfl) (by kernel_rfl) (by kernel_rfl) (fun _ _ _ h => h) (Or.inl ⟨by rfl, ?hy4_44⟩) (by with_reducible assumption) ?rest4_44
          case hy4_44 => (intro V_ hSw; (try dsimp only at hSw); go_simp; (try with_reducible rfl))
          case' rest4_44 => skip
          try simp only [Act.put, List.setIfInBounds_toArray, List.set_cons_zero, List.set_cons_succ]
          refine wpAnyH_take (i := 5) (oi := ⟨some 38, _, _, _, _, none⟩) (v := ?v5_45) rfl (by kernel_rfl) (by kernel_rfl) (by kernel_rfl) (fun _ _ _ h => h) (Or.inl ⟨by rfl, ?hy5_45⟩) (by with_reducible assumption) ?rest5_45
          case hy5_45 => (intro V_ hSw; (try dsimp only at hSw); go_simp; (try with_reducible rfl))
          case' rest5_45 => skip
          try simp only [Act.put, List.setIfInBounds_toArray, List.set_cons_zero, List.set_cons_succ]
          refine wpAnyH_take (i := 6) (oi := ⟨some 39, _, _, _, _, none⟩) (v := ?v6_46) rfl (by kernel_rfl) (by kernel_rfl) (by kernel_rfl) (fun _ _ _ h => h) (Or.inl ⟨by rfl, ?hy6_46⟩) (by with_reducible assumption) ?rest6_46
          case hy6_46 => (intro V_ hSw; (try dsimp only at hSw); go_simp; (try with_reducible rfl))
          case' rest6_46 => skip
          try simp only [Act.put, List.setIfInBounds_toArray, List.set_cons_zero, List.set_cons_succ]
          refine wpAnyH_take (i := 7) (oi := ⟨some 40, _, _, _, _, none⟩) (v := ?v7_47) rfl (by kernel_rfl) (by kernel_rfl) (by kernel_rfl) (fun _ _ _ h => h) (Or.inl ⟨by rfl, ?hy7_47⟩) (by with_reducible assumption) ?rest7_47
          case hy7_47 => (intro V_ hSw; (try dsimp only at hSw); go_simp; (try with_reducible rfl))
          case' rest7_47 => skip
          try simp only [Act.put, List.setIfInBounds_toArray, List.set_cons_zero, List.set_cons_succ]
          refine wpAnyH_take (i := 8) (oi := ⟨some 41, _, _, _, _, none⟩) (v := ?v8_48) rfl (by kernel_rfl) (by kernel_rfl) (by kernel_rfl) (fun _ _ _ h => h) (Or.inl ⟨by rfl, ?hy8_48⟩) (by with_reducible assumption) ?rest8_48
          case hy8_48 => (intro V_ hSw; (try dsimp only at hSw); go_simp; (try with_reducible rfl))
          case' rest8_48 => skip
          try simp only [Act.put, List.setIfInBounds_toArray, List.set_cons_zero, List.set_cons_succ]
          refine wpAnyH_take (i := 9) (oi := ⟨some 42, _, _, _, _, none⟩) (v := ?v9_49) rfl (by kernel_rfl) (by kernel_rfl) (by kernel_rfl) (fun _ _ _ h => h) (Or.inl ⟨by rfl, ?hy9_49⟩) (by with_reducible assumption) ?rest9_49
          case hy9_49 => (intro V_ hSw; (try dsimp only at hSw); go_simp; (try with_reducible rfl))
          case' rest9_49 => skip
          try simp only [Act.put, List.setIfInBounds_toArray, List.set_cons_zero, List.set_cons_succ]
          refine wpAnyH_take (i := 10) (oi := ⟨some 43, _, _, _, _, none⟩) (v := ?v10_50) rfl (by kernel_rfl) (by kernel_rfl) (by kernel_rfl) (fun _ _ _ h => h) (Or.inl ⟨by rfl, ?hy10_50⟩) (by with_reducible assumption) ?rest10_50
          case hy10_50 => (intro V_ hSw; (try dsimp only at hSw); go_simp; (try with_reducible rfl))
          case' rest10_50 => skip
          try simp only [Act.put, List.setIfInBounds_toArray, List.set_cons_zero, List.set_cons_succ]
          refine wpAnyH_take (i := 11) (oi := ⟨some 44, _, _, _, _, none⟩) (v := ?v11_51) rfl (by kernel_rfl) (by kernel_rfl) (by kernel_rfl) (fun _ _ _ h => h) (Or.inl ⟨by rfl, ?hy11_51⟩) (by with_reducible assumption) ?rest11_51
          case hy11_51 => (intro V_ hSw; (try dsimp only at hSw); go_simp; (try with_reducible rfl))
          case' rest11_51 => skip
          try simp only [Act.put, List.setIfInBounds_toArray, List.set_cons_zero, List.set_cons_succ]
          refine wpAnyH_take (i := 12) (oi := ⟨some 45, _, _, _, _, none⟩) (v := ?v12_52) rfl (by kernel_rfl) (by kernel_rfl) (by kernel_rfl) (fun _ _ _ h => h) (Or.inl ⟨by rfl, ?hy12_52⟩) (by with_reducible assumption) ?rest12_52
          case hy12_52 => (intro V_ hSw; (try dsimp only at hSw); go_simp; (try with_reducible rfl))
          case' rest12_52 => skip
          try simp only [Act.put, List.setIfInBounds_toArray, List.set_cons_zero, List.set_cons_succ]
          refine wpAnyH_take (i := 13) (oi := ⟨some 46, _, _, _, _, none⟩) (v := ?v13_53) rfl (by kernel_rfl) (by kernel_rfl) (by kernel_rfl) (fun _ _ _ h => h) (Or.inl ⟨by rfl, ?hy13_53⟩) (by with_reducible assumption) ?rest13_53
          case hy13_53 => (intro V_ hSw; (try dsimp only at hSw); go_simp; (try with_reducible rfl))
          case' rest13_53 => skip
          try simp only [Act.put, List.setIfInBounds_toArray, List.set_cons_zero, List.set_cons_succ]
          refine wpAnyH_take (i := 14) (oi := ⟨some 47, _, _, _, _, none⟩) (v := ?v14_54) rfl (by kernel_rfl) (by kernel_rfl) (by kernel_rfl) (fun _ _ _ h => h) (Or.inl ⟨by rfl, ?hy14_54⟩) (by with_reducible assumption) ?rest14_54
          case hy14_54 => (intro V_ hSw; (try dsimp only at hSw); go_simp; (try with_reducible rfl))
          case' rest14_54 => skip
          try simp only [Act.put, List.setIfInBounds_toArray, List.set_cons_zero, List.set_cons_succ]
          refine wpAnyH_take (i := 15) (oi := ⟨some 48, _, _, _, _, none⟩) (v := ?v15_55) rfl (by kernel_rfl) (by kernel_rfl) (by kernel_rfl) (fun _ _ _ h => h) (Or.inl ⟨by rfl, ?hy15_55⟩) (by with_reducible assumption) ?rest15_55
          case hy15_55 => (intro V_ hSw; (try dsimp only at hSw); go_simp; (try with_reducible rfl))
          case' rest15_55 => skip
          try simp only [Act.put, List.setIfInBounds_toArray, List.set_cons_zero, List.set_cons_succ]
          refine wpAnyH_ready (rs := [16]) (by kernel_rfl) (by simp) ?_
          refine AllReadyH.cons (o := ⟨some 49, _, _, _, _, none⟩) rfl (fun K hK => ?_) ?_
          · go_simp
            refine (td_add wn wd g t d.f1 (d.f2.f0, d.f2.f1) d.f3 HT.out (by have h1 := HI.out.1; have h2 := HH.out.2; omega)).mono ?_
            rintro e w7 ⟨rfl, hT, hN⟩
            have HX_ := Aside0.mk (hN.blk HX.out HNG.out (by decide))
            clear HX
            have HX := Aside0.mk HX_.out
            clear HX_
            have HM_ := Aside0.mk (hN.blk HM.out HMG.out (by decide))
            clear HM
            have HM := Aside0.mk HM_.out
            clear HM_
            clear HT
            have HT := Aside0.mk hT
            clear hT hN
            rw [HERR.out]
            have hq := HT.out
            rw [HERR.out, if_pos rfl, HT'.out] at hq
            clear HT
            have HT := Aside0.mk hq
            clear hq
            refine hK.out _ _ ⟨HCL.out _ (below_step HW2.out HT.out.below), (blk_cell HX.out 0).trans rfl, (blk_cell HX.out 1).trans rfl⟩ (fun hHeld => ?_)
            clear hK K
            try simp only [Act.put, List.setIfInBounds_toArray, List.set_cons_zero, List.set_cons_succ]
            refine wpAnyH_take (i := 17) (oi := ⟨some 50, _, _, _, _, none⟩) (v := ?v17_56) rfl (by kernel_rfl) (by kernel_rfl) (by kernel_rfl) (fun _ _ _ h => h) (Or.inl ⟨by rfl, ?hy17_56⟩) (by with_reducible assumption) ?rest17_56
            case hy17_56 => (intro V_ hSw; (try dsimp only at hSw); go_simp; (try with_reducible rfl))
            case' rest17_56 => skip
            try simp only [Act.put, List.setIfInBounds_toArray, List.set_cons_zero, List.set_cons_succ]
            refine wpAnyH_take (i := 18) (oi := ⟨some 51, _, _, _, _, none⟩) (v := ?v18_57) rfl (by kernel_rfl) (by kernel_rfl) (by kernel_rfl) (fun _ _ _ h => h) (Or.inl ⟨by rfl, ?hy18_57⟩) (by with_reducible assumption) ?rest18_57
            case hy18_57 => (intro V_ hSw; (try dsimp only at hSw); go_simp; (try with_reducible rfl))
            case' rest18_57 => skip
            try simp only [Act.put, List.setIfInBounds_toArray, List.set_cons_zero, List.set_cons_succ]
            refine wpAnyH_take (i := 19) (oi := ⟨some 52, _, _, _, _, some (18, true)⟩) (v := ?v19_58) rfl (by kernel_rfl) (by kernel_rfl) (by kernel_rfl) (fun _ _ _ h => h) (Or.inl ⟨by rfl, ?hy19_58⟩) (by with_reducible assumption) ?rest19_58
            case hy19_58 => (intro V_ hSw; (try dsimp only at hSw); go_simp; (try with_reducible rfl))
            case' rest19_58 => skip
            try simp only [Act.put, List.setIfInBounds_toArray, List.set_cons_zero, List.set_cons_succ]
            refine wpAnyH_take (i := 20) (oi := ⟨some 53, _, _, _, _, some (18, true)⟩) (v := ?v20_59) rfl (by kernel_rfl) (by kernel_rfl) (by kernel_rfl) (fun _ _ _ h => h) (Or.inl ⟨by rfl, ?hy20_59⟩) (by with_reducible assumption) ?rest20_59
            case hy20_59 => (intro V_ hSw; (try dsimp only at hSw); go_simp; (try with_reducible rfl))
            case' rest20_59 => skip
            try simp only [Act.put, List.setIfInBounds_toArray, List.set_cons_zero, List.set_cons_succ]
            refine wpAnyH_take (i := 21) (oi := ⟨some 54, _, _, _, _, some (18, true)⟩) (v := ?v21_60) rfl (by kernel_rfl) (by kernel_rfl) (by kernel_rfl) (fun _ _ _ h => h) (Or.inl ⟨by rfl, ?hy21_60⟩) (by with_reducible assumption) ?rest21_60
            case hy21_60 => (intro V_ hSw; (try dsimp only at hSw); go_simp; (try with_reducible rfl))
            case' rest21_60 => skip
            try simp only [Act.put, List.setIfInBounds_toArray, List.set_cons_zero, List.set_cons_succ]
            refine wpAnyH_take (i := 22) (oi := ⟨some 55, _, _, _, _, some (18, true)⟩) (v := ?v22_61) rfl (by kernel_rfl) (by kernel_rfl) (by kernel_rfl) (fun _ _ _ h => h) (Or.inl ⟨by rfl, ?hy22_61⟩) (by with_reducible assumption) ?rest22_61
            case hy22_61 => (intro V_ hSw; (try dsimp only at hSw); go_simp; (try with_reducible rfl))
            case' rest22_61 => skip
            try simp only [Act.put, List.setIfInBounds_toArray, List.set_cons_zero, List.set_cons_succ]
            refine wpAnyH_take (i := 23) (oi := ⟨some 56, _, _, _, _, some (18, true)⟩) (v := ?v23_62) rfl (by kernel_rfl) (by kernel_rfl) (by kernel_rfl) (fun _ _ _ h => h) (Or.inl ⟨by rfl, ?hy23_62⟩) (by with_reducible assumption) ?rest23_62
            case hy23_62 => (intro V_ hSw; (try dsimp only at hSw); go_simp; (try with_reducible rfl))
            case' rest23_62 => skip
            try simp only [Act.put, List.setIfInBounds_toArray, List.set_cons_zero, List.set_cons_succ]
            refine wpAnyH_take (i := 24) (oi := ⟨some 57, _, _, _, _, some (18, true)⟩) (v := ?v24_63) rfl (by kernel_rfl) (by kernel_rfl) (by kernel_rfl) (fun _ _ _ h => h) (Or.inl ⟨by rfl, ?hy24_63⟩) (by with_reducible assumption) ?rest24_63
            case hy24_63 => (intro V_ hSw; (try dsimp only at hSw); go_simp; (try with_reducible rfl))
            case' rest24_63 => skip
            try simp only [Act.put, List.setIfInBounds_toArray, List.set_cons_zero, List.set_cons_succ]
            refine wpAnyH_ready (rs := [25]) (by kernel_rfl) (by simp) ?_
            refine AllReadyH.cons (o := ⟨some 58, _, _, _, _, some (18, true)⟩) rfl (fun K hK => ?_) ?_
            · go_simp
              refine (spans_Meets.calls d.f1 s _).mono ?_
              rintro e w8 ⟨rfl, hb⟩
              have HX_ := Aside0.mk (td_kept HX.out hb)
              clear HX
              have HX := Aside0.mk HX_.out
              clear HX_
              have HM_ := Aside0.mk (td_kept HM.out hb)
              clear HM
              have HM := Aside0.mk HM_.out
              clear HM_
              have HT_ := Aside0.mk (HT.out.step hb)
              clear HT
              have HT := Aside0.mk HT_.out
              clear HT_
              clear hb
              rw [HMT.out]
              refine hK.out _ _ ⟨HCL.out _ (below_step HW2.out HT.out.below), (blk_cell HX.out 0).trans rfl, (blk_cell HX.out 1).trans rfl⟩ (fun hHeld => ?_)
              clear hK K
              try simp only [Act.put, List.setIfInBounds_toArray, List.set_cons_zero, List.set_cons_succ]
              refine wpAnyH_take (i := 26) (oi := ⟨some 59, _, _, _, _, none⟩) (v := ?v26_64) rfl (by kernel_rfl) (by kernel_rfl) (by kernel_rfl) (fun _ _ _ h => h) (Or.inl ⟨by rfl, ?hy26_64⟩) (by with_reducible assumption) ?rest26_64
              case hy26_64 => (intro V_ hSw; (try dsimp only at hSw); go_simp; (try with_reducible rfl))
              case' rest26_64 => skip
              try simp only [Act.put, List.setIfInBounds_toArray, List.set_cons_zero, List.set_cons_succ]
              refine wpAnyH_take (i := 27) (oi := ⟨some 60, _, _, _, _, none⟩) (v := ?v27_65) rfl (by kernel_rfl) (by kernel_rfl) (by kernel_rfl) (fun _ _ _ h => h) (Or.inl ⟨by rfl, ?hy27_65⟩) (by with_reducible assumption) ?rest27_65
              case hy27_65 => (intro V_ hSw; (try dsimp only at hSw); go_simp; (try with_reducible rfl))
              case' rest27_65 => skip
              try simp only [Act.put, List.setIfInBounds_toArray, List.set_cons_zero, List.set_cons_succ]
              refine wpAnyH_take (i := 28) (oi := ⟨some 61, _, _, _, _, some (27, true)⟩) rfl (by kernel_rfl) (by kernel_rfl) (by kernel_rfl) (fun _ _ _ h => h) (Or.inr ⟨by rfl, rfl⟩) (by with_reducible assumption) ?_
              try simp only [Act.put, List.setIfInBounds_toArray, List.set_cons_zero, List.set_cons_succ]
              refine wpAnyH_take (i := 29) (oi := ⟨some 62, _, _, _, _, some (27, true)⟩) rfl (by kernel_rfl) (by kernel_rfl) (by kernel_rfl) (fun _ _ _ h => h) (Or.inr ⟨by rfl, rfl⟩) (by with_reducible assumption) ?_
              try simp only [Act.put, List.setIfInBounds_toArray, List.set_cons_zero, List.set_cons_succ]
              refine wpAnyH_take (i := 30) (oi := ⟨some 63, _, _, _, _, some (27, true)⟩) rfl (by kernel_rfl) (by kernel_rfl) (by kernel_rfl) (fun _ _ _ h => h) (Or.inr ⟨by rfl, rfl⟩) (by with_reducible assumption) ?_
              try simp only [Act.put, List.setIfInBounds_toArray, List.set_cons_zero, List.set_cons_succ]
              refine wpAnyH_take (i := 31) (oi := ⟨some 64, _, _, _, _, some (30, false)⟩) rfl (by kernel_rfl) (by kernel_rfl) (by kernel_rfl) (fun _ _ _ h => h) (Or.inr ⟨by rfl, rfl⟩) (by with_reducible assumption) ?_
              try simp only [Act.put, List.setIfInBounds_toArray, List.set_cons_zero, List.set_cons_succ]
              refine wpAnyH_take (i := 32) (oi := ⟨some 65, _, _, _, _, some (30, false)⟩) rfl (by kernel_rfl) (by kernel_rfl) (by kernel_rfl) (fun _ _ _ h => h) (Or.inr ⟨by rfl, rfl⟩) (by with_reducible assumption) ?_
              try simp only [Act.put, List.setIfInBounds_toArray, List.set_cons_zero, List.set_cons_succ]
              refine wpAnyH_take (i := 33) (oi := ⟨some 66, _, _, _, _, some (30, false)⟩) rfl (by kernel_rfl) (by kernel_rfl) (by kernel_rfl) (fun _ _ _ h => h) (Or.inr ⟨by rfl, rfl⟩) (by with_reducible assumption) ?_
              try simp only [Act.put, List.setIfInBounds_toArray, List.set_cons_zero, List.set_cons_succ]
              refine wpAnyH_take (i := 34) (oi := ⟨some 67, _, _, _, _, some (30, false)⟩) rfl (by kernel_rfl) (by kernel_rfl) (by kernel_rfl) (fun _ _ _ h => h) (Or.inr ⟨by rfl, rfl⟩) (by with_reducible assumption) ?_
              try simp only [Act.put, List.setIfInBounds_toArray, List.set_cons_zero, List.set_cons_succ]
              refine wpAnyH_take (i := 35) (oi := ⟨some 68, _, _, _, _, some (30, false)⟩) rfl (by kernel_rfl) (by kernel_rfl) (by kernel_rfl) (fun _ _ _ h => h) (Or.inr ⟨by rfl, rfl⟩) (by with_reducible assumption) ?_
              try simp only [Act.put, List.setIfInBounds_toArray, List.set_cons_zero, List.set_cons_succ]
              refine wpAnyH_take (i := 36) (oi := ⟨some 69, _, _, _, _, some (30, false)⟩) rfl (by kernel_rfl) (by kernel_rfl) (by kernel_rfl) (fun _ _ _ h => h) (Or.inr ⟨by rfl, rfl⟩) (by with_reducible assumption) ?_
              try simp only [Act.put, List.setIfInBounds_toArray, List.set_cons_zero, List.set_cons_succ]
              refine wpAnyH_take (i := 37) (oi := ⟨some 70, _, _, _, _, some (30, false)⟩) rfl (by kernel_rfl) (by kernel_rfl) (by kernel_rfl) (fun _ _ _ h => h) (Or.inr ⟨by rfl, rfl⟩) (by with_reducible assumption) ?_
              try simp only [Act.put, List.setIfInBounds_toArray, List.set_cons_zero, List.set_cons_succ]
              refine wpAnyH_take (i := 38) (oi := ⟨some 71, _, _, _, _, some (27, true)⟩) rfl (by kernel_rfl) (by kernel_rfl) (by kernel_rfl) (fun _ _ _ h => h) (Or.inr ⟨by rfl, rfl⟩) (by with_reducible assumption) ?_
              try simp only [Act.put, List.setIfInBounds_toArray, List.set_cons_zero, List.set_cons_succ]
              refine wpAnyH_take (i := 39) (oi := ⟨some 72, _, _, _, _, none⟩) (v := ?v39_77) rfl (by kernel_rfl) (by kernel_rfl) (by kernel_rfl) (fun _ _ _ h => h) (Or.inl ⟨by rfl, ?hy39_77⟩) (by with_reducible assumption) ?rest39_77
              case hy39_77 => (intro V_ hSw; (try dsimp only at hSw); go_simp; (try with_reducible rfl))
              case' rest39_77 => skip
              try simp only [Act.put, List.setIfInBounds_toArray, List.set_cons_zero, List.set_cons_succ]
              refine wpAnyH_done (by kernel_rfl) ?_ _
              refine NoPanic.normal ?_
              clear hHeld
              go_wp2_with fail
              go_roundg (64 - i)
              case measure => have h1 := HK.out; have h2 := HH.out.2; omega
              case rel => exact ⟨i + 1, t', m, congrArg (Value.int .i64) (by first | exact HWI.out | exact HWI2.out | rfl | omega), ⟨by have h1 := HK.out; have h2 := HH.out.2; omega⟩, ⟨by have q := HEX.out; rw [HAS.out, if_neg (by decide)] at q; have h1 := HI.out.1; exact ⟨by omega, q.1.trans HI.out.2.1, q.2.2.trans HI.out.2.2⟩⟩, HT, HX, HM⟩
            exact AllReadyH.nil
          exact AllReadyH.nil
        case true =>
          by_cases ho : o = 0
          case pos =>
            have e0 : (o == 0) = true := beq_iff_eq.mpr ho
            have HAS := Aside0.mk (show asks s o (⟨d.f1, (d.f2.f0, d.f2.f1), d.f3⟩ : Rd S24) = true from by unfold asks; rw [show ((⟨d.f1, (d.f2.f0, d.f2.f1), d.f3⟩ : Rd S24)).s = d.f1 from rfl, hbm, e0]; rfl)
            clear hbm ho
            go_upto_region 10 with fail
            refine wp_region_noPanic ?_
            refine wp_region_held_drew (S := (fun V => (V.cell? (ad2.add (i * 6)) = some (.int .i64 d.f0) ∧ V.cell? ⟨(ad2.add (i * 6)).block, (ad2.add (i * 6)).off + 1, none⟩ = some (.string d.f1.f0) ∧ V.cell? ⟨(ad2.add (i * 6)).block, (ad2.add (i * 6)).off + 2, none⟩ = some (.string d.f1.f1) ∧ V.cell? ⟨(ad2.add (i * 6)).block, (ad2.add (i * 6)).off + 3, none⟩ = some (.int .i64 d.f2.f0) ∧ V.cell? ⟨(ad2.add (i * 6)).block, (ad2.add (i * 6)).off + 4, none⟩ = some (.int .i64 d.f2.f1) ∧ V.cell? ⟨(ad2.add (i * 6)).block, (ad2.add (i * 6)).off + 5, none⟩ = some (.int .i64 d.f3)) ∧ V.cell? ⟨n, 0, none⟩ = some (.string s.f0) ∧ V.cell? ⟨n, 1, none⟩ = some (.string s.f1))) (by kernel_rfl) ⟨HCL.out _ (below_step HW2.out (HT.out.step (below_drew1 (Below.refl _ _))).below), (blk_cell (td_kept HX.out (below_drew1 (Below.refl _ _))) 0).trans rfl, (blk_cell (td_kept HX.out (below_drew1 (Below.refl _ _))) 1).trans rfl⟩ (fun hHeld => ?_)
            generalize hwd : World.drew _ = wd at hHeld ⊢
            have hb : Below wr.heap.size wr wd := by rw [← hwd]; exact below_drew1 (Below.refl _ _)
            clear hwd
            have HX_ := Aside0.mk (td_kept HX.out hb)
            clear HX
            have HX := Aside0.mk HX_.out
            clear HX_
            have HT_ := Aside0.mk (HT.out.step hb)
            clear HT
            have HT := Aside0.mk HT_.out
            clear HT_
            have HM_ := Aside0.mk (td_kept HM.out hb)
            clear HM
            have HM := Aside0.mk HM_.out
            clear HM_
            clear hb
            refine wpAnyH_take (i := 0) (oi := ⟨some 33, _, _, _, _, none⟩) (v := ?v0_78) rfl (by kernel_rfl) (by kernel_rfl) (by kernel_rfl) (fun _ _ _ h => h) (Or.inl ⟨by rfl, ?hy0_78⟩) (by with_reducible assumption) ?rest0_78
            case hy0_78 => (intro V_ hSw; (try dsimp only at hSw); go_simp; (try with_reducible rfl))
            case' rest0_78 => skip
            try simp only [Act.put, List.setIfInBounds_toArray, List.set_cons_zero, List.set_cons_succ]
            refine wpAnyH_take (i := 1) (oi := ⟨some 34, _, _, _, _, none⟩) (v := ?v1_79) rfl (by kernel_rfl) (by kernel_rfl) (by kernel_rfl) (fun _ _ _ h => h) (Or.inl ⟨by rfl, ?hy1_79⟩) (by with_reducible assumption) ?rest1_79
            case hy1_79 => (intro V_ hSw; (try dsimp only at hSw); go_simp; (try with_reducible rfl))
            case' rest1_79 => skip
            try simp only [Act.put, List.setIfInBounds_toArray, List.set_cons_zero, List.set_cons_succ]
            refine wpAnyH_take (i := 2) (oi := ⟨some 35, _, _, _, _, none⟩) (v := ?v2_80) rfl (by kernel_rfl) (by kernel_rfl) (by kernel_rfl) (fun _ _ _ h => h) (Or.inl ⟨by rfl, ?hy2_80⟩) (by with_reducible assumption) ?rest2_80
            case hy2_80 => (intro V_ hSw; (try dsimp only at hSw); go_simp; (try with_reducible rfl))
            case' rest2_80 => skip
            try simp only [Act.put, List.setIfInBounds_toArray, List.set_cons_zero, List.set_cons_succ]
            refine wpAnyH_take (i := 3) (oi := ⟨some 36, _, _, _, _, none⟩) (v := ?v3_81) rfl (by kernel_rfl) (by kernel_rfl) (by kernel_rfl) (fun _ _ _ h => h) (Or.inl ⟨by rfl, ?hy3_81⟩) (by with_reducible assumption) ?rest3_81
            case hy3_81 => (intro V_ hSw; (try dsimp only at hSw); go_simp; (try with_reducible rfl))
            case' rest3_81 => skip
            try simp only [Act.put, List.setIfInBounds_toArray, List.set_cons_zero, List.set_cons_succ]
            refine wpAnyH_take (i := 4) (oi := ⟨some 37, _, _, _, _, none⟩) (v := ?v4_82) rfl (by kernel_rfl) (by kernel_rfl) (by kernel_rfl) (fun _ _ _ h => h) (Or.inl ⟨by rfl, ?hy4_82⟩) (by with_reducible assumption) ?rest4_82
            case hy4_82 => (intro V_ hSw; (try dsimp only at hSw); go_simp; (try with_reducible rfl))
            case' rest4_82 => skip
            try simp only [Act.put, List.setIfInBounds_toArray, List.set_cons_zero, List.set_cons_succ]
            refine wpAnyH_take (i := 5) (oi := ⟨some 38, _, _, _, _, none⟩) (v := ?v5_83) rfl (by kernel_rfl) (by kernel_rfl) (by kernel_rfl) (fun _ _ _ h => h) (Or.inl ⟨by rfl, ?hy5_83⟩) (by with_reducible assumption) ?rest5_83
            case hy5_83 => (intro V_ hSw; (try dsimp only at hSw); go_simp; (try with_reducible rfl))
            case' rest5_83 => skip
            try simp only [Act.put, List.setIfInBounds_toArray, List.set_cons_zero, List.set_cons_succ]
            refine wpAnyH_take (i := 6) (oi := ⟨some 39, _, _, _, _, none⟩) (v := ?v6_84) rfl (by kernel_rfl) (by kernel_rfl) (by kernel_rfl) (fun _ _ _ h => h) (Or.inl ⟨by rfl, ?hy6_84⟩) (by with_reducible assumption) ?rest6_84
            case hy6_84 => (intro V_ hSw; (try dsimp only at hSw); go_simp; (try with_reducible rfl))
            case' rest6_84 => skip
            try simp only [Act.put, List.setIfInBounds_toArray, List.set_cons_zero, List.set_cons_succ]
            refine wpAnyH_take (i := 7) (oi := ⟨some 40, _, _, _, _, none⟩) (v := ?v7_85) rfl (by kernel_rfl) (by kernel_rfl) (by kernel_rfl) (fun _ _ _ h => h) (Or.inl ⟨by rfl, ?hy7_85⟩) (by with_reducible assumption) ?rest7_85
            case hy7_85 => (intro V_ hSw; (try dsimp only at hSw); go_simp; (try with_reducible rfl))
            case' rest7_85 => skip
            try simp only [Act.put, List.setIfInBounds_toArray, List.set_cons_zero, List.set_cons_succ]
            refine wpAnyH_take (i := 8) (oi := ⟨some 41, _, _, _, _, none⟩) (v := ?v8_86) rfl (by kernel_rfl) (by kernel_rfl) (by kernel_rfl) (fun _ _ _ h => h) (Or.inl ⟨by rfl, ?hy8_86⟩) (by with_reducible assumption) ?rest8_86
            case hy8_86 => (intro V_ hSw; (try dsimp only at hSw); go_simp; (try with_reducible rfl))
            case' rest8_86 => skip
            try simp only [Act.put, List.setIfInBounds_toArray, List.set_cons_zero, List.set_cons_succ]
            refine wpAnyH_take (i := 9) (oi := ⟨some 42, _, _, _, _, none⟩) (v := ?v9_87) rfl (by kernel_rfl) (by kernel_rfl) (by kernel_rfl) (fun _ _ _ h => h) (Or.inl ⟨by rfl, ?hy9_87⟩) (by with_reducible assumption) ?rest9_87
            case hy9_87 => (intro V_ hSw; (try dsimp only at hSw); go_simp; (try with_reducible rfl))
            case' rest9_87 => skip
            try simp only [Act.put, List.setIfInBounds_toArray, List.set_cons_zero, List.set_cons_succ]
            refine wpAnyH_take (i := 10) (oi := ⟨some 43, _, _, _, _, none⟩) (v := ?v10_88) rfl (by kernel_rfl) (by kernel_rfl) (by kernel_rfl) (fun _ _ _ h => h) (Or.inl ⟨by rfl, ?hy10_88⟩) (by with_reducible assumption) ?rest10_88
            case hy10_88 => (intro V_ hSw; (try dsimp only at hSw); go_simp; (try with_reducible rfl))
            case' rest10_88 => skip
            try simp only [Act.put, List.setIfInBounds_toArray, List.set_cons_zero, List.set_cons_succ]
            refine wpAnyH_take (i := 11) (oi := ⟨some 44, _, _, _, _, none⟩) (v := ?v11_89) rfl (by kernel_rfl) (by kernel_rfl) (by kernel_rfl) (fun _ _ _ h => h) (Or.inl ⟨by rfl, ?hy11_89⟩) (by with_reducible assumption) ?rest11_89
            case hy11_89 => (intro V_ hSw; (try dsimp only at hSw); go_simp; (try with_reducible rfl))
            case' rest11_89 => skip
            try simp only [Act.put, List.setIfInBounds_toArray, List.set_cons_zero, List.set_cons_succ]
            refine wpAnyH_take (i := 12) (oi := ⟨some 45, _, _, _, _, none⟩) (v := ?v12_90) rfl (by kernel_rfl) (by kernel_rfl) (by kernel_rfl) (fun _ _ _ h => h) (Or.inl ⟨by rfl, ?hy12_90⟩) (by with_reducible assumption) ?rest12_90
            case hy12_90 => (intro V_ hSw; (try dsimp only at hSw); go_simp; (try with_reducible rfl))
            case' rest12_90 => skip
            try simp only [Act.put, List.setIfInBounds_toArray, List.set_cons_zero, List.set_cons_succ]
            refine wpAnyH_take (i := 13) (oi := ⟨some 46, _, _, _, _, none⟩) (v := ?v13_91) rfl (by kernel_rfl) (by kernel_rfl) (by kernel_rfl) (fun _ _ _ h => h) (Or.inl ⟨by rfl, ?hy13_91⟩) (by with_reducible assumption) ?rest13_91
            case hy13_91 => (intro V_ hSw; (try dsimp only at hSw); go_simp; (try with_reducible rfl))
            case' rest13_91 => skip
            try simp only [Act.put, List.setIfInBounds_toArray, List.set_cons_zero, List.set_cons_succ]
            refine wpAnyH_take (i := 14) (oi := ⟨some 47, _, _, _, _, none⟩) (v := ?v14_92) rfl (by kernel_rfl) (by kernel_rfl) (by kernel_rfl) (fun _ _ _ h => h) (Or.inl ⟨by rfl, ?hy14_92⟩) (by with_reducible assumption) ?rest14_92
            case hy14_92 => (intro V_ hSw; (try dsimp only at hSw); go_simp; (try with_reducible rfl))
            case' rest14_92 => skip
            try simp only [Act.put, List.setIfInBounds_toArray, List.set_cons_zero, List.set_cons_succ]
            refine wpAnyH_take (i := 15) (oi := ⟨some 48, _, _, _, _, none⟩) (v := ?v15_93) rfl (by kernel_rfl) (by kernel_rfl) (by kernel_rfl) (fun _ _ _ h => h) (Or.inl ⟨by rfl, ?hy15_93⟩) (by with_reducible assumption) ?rest15_93
            case hy15_93 => (intro V_ hSw; (try dsimp only at hSw); go_simp; (try with_reducible rfl))
            case' rest15_93 => skip
            try simp only [Act.put, List.setIfInBounds_toArray, List.set_cons_zero, List.set_cons_succ]
            refine wpAnyH_ready (rs := [16]) (by kernel_rfl) (by simp) ?_
            refine AllReadyH.cons (o := ⟨some 49, _, _, _, _, none⟩) rfl (fun K hK => ?_) ?_
            · go_simp
              refine (td_add wn wd g t d.f1 (d.f2.f0, d.f2.f1) d.f3 HT.out (by have h1 := HI.out.1; have h2 := HH.out.2; omega)).mono ?_
              rintro e w7 ⟨rfl, hT, hN⟩
              have HX_ := Aside0.mk (hN.blk HX.out HNG.out (by decide))
              clear HX
              have HX := Aside0.mk HX_.out
              clear HX_
              have HM_ := Aside0.mk (hN.blk HM.out HMG.out (by decide))
              clear HM
              have HM := Aside0.mk HM_.out
              clear HM_
              clear HT
              have HT := Aside0.mk hT
              clear hT hN
              rw [HERR.out]
              have hq := HT.out
              rw [HERR.out, if_pos rfl, HT'.out] at hq
              clear HT
              have HT := Aside0.mk hq
              clear hq
              refine hK.out _ _ ⟨HCL.out _ (below_step HW2.out HT.out.below), (blk_cell HX.out 0).trans rfl, (blk_cell HX.out 1).trans rfl⟩ (fun hHeld => ?_)
              clear hK K
              try simp only [Act.put, List.setIfInBounds_toArray, List.set_cons_zero, List.set_cons_succ]
              refine wpAnyH_take (i := 17) (oi := ⟨some 50, _, _, _, _, none⟩) (v := ?v17_94) rfl (by kernel_rfl) (by kernel_rfl) (by kernel_rfl) (fun _ _ _ h => h) (Or.inl ⟨by rfl, ?hy17_94⟩) (by with_reducible assumption) ?rest17_94
              case hy17_94 => (intro V_ hSw; (try dsimp only at hSw); go_simp; (try with_reducible rfl))
              case' rest17_94 => skip
              try simp only [Act.put, List.setIfInBounds_toArray, List.set_cons_zero, List.set_cons_succ]
              refine wpAnyH_take (i := 18) (oi := ⟨some 51, _, _, _, _, none⟩) (v := ?v18_95) rfl (by kernel_rfl) (by kernel_rfl) (by kernel_rfl) (fun _ _ _ h => h) (Or.inl ⟨by rfl, ?hy18_95⟩) (by with_reducible assumption) ?rest18_95
              case hy18_95 => (intro V_ hSw; (try dsimp only at hSw); go_simp; (try with_reducible rfl))
              case' rest18_95 => skip
              try simp only [Act.put, List.setIfInBounds_toArray, List.set_cons_zero, List.set_cons_succ]
              refine wpAnyH_take (i := 19) (oi := ⟨some 52, _, _, _, _, some (18, true)⟩) (v := ?v19_96) rfl (by kernel_rfl) (by kernel_rfl) (by kernel_rfl) (fun _ _ _ h => h) (Or.inl ⟨by rfl, ?hy19_96⟩) (by with_reducible assumption) ?rest19_96
              case hy19_96 => (intro V_ hSw; (try dsimp only at hSw); go_simp; (try with_reducible rfl))
              case' rest19_96 => skip
              try simp only [Act.put, List.setIfInBounds_toArray, List.set_cons_zero, List.set_cons_succ]
              refine wpAnyH_take (i := 20) (oi := ⟨some 53, _, _, _, _, some (18, true)⟩) (v := ?v20_97) rfl (by kernel_rfl) (by kernel_rfl) (by kernel_rfl) (fun _ _ _ h => h) (Or.inl ⟨by rfl, ?hy20_97⟩) (by with_reducible assumption) ?rest20_97
              case hy20_97 => (intro V_ hSw; (try dsimp only at hSw); go_simp; (try with_reducible rfl))
              case' rest20_97 => skip
              try simp only [Act.put, List.setIfInBounds_toArray, List.set_cons_zero, List.set_cons_succ]
              refine wpAnyH_take (i := 21) (oi := ⟨some 54, _, _, _, _, some (18, true)⟩) (v := ?v21_98) rfl (by kernel_rfl) (by kernel_rfl) (by kernel_rfl) (fun _ _ _ h => h) (Or.inl ⟨by rfl, ?hy21_98⟩) (by with_reducible assumption) ?rest21_98
              case hy21_98 => (intro V_ hSw; (try dsimp only at hSw); go_simp; (try with_reducible rfl))
              case' rest21_98 => skip
              try simp only [Act.put, List.setIfInBounds_toArray, List.set_cons_zero, List.set_cons_succ]
              refine wpAnyH_take (i := 22) (oi := ⟨some 55, _, _, _, _, some (18, true)⟩) (v := ?v22_99) rfl (by kernel_rfl) (by kernel_rfl) (by kernel_rfl) (fun _ _ _ h => h) (Or.inl ⟨by rfl, ?hy22_99⟩) (by with_reducible assumption) ?rest22_99
              case hy22_99 => (intro V_ hSw; (try dsimp only at hSw); go_simp; (try with_reducible rfl))
              case' rest22_99 => skip
              try simp only [Act.put, List.setIfInBounds_toArray, List.set_cons_zero, List.set_cons_succ]
              refine wpAnyH_take (i := 23) (oi := ⟨some 56, _, _, _, _, some (18, true)⟩) (v := ?v23_100) rfl (by kernel_rfl) (by kernel_rfl) (by kernel_rfl) (fun _ _ _ h => h) (Or.inl ⟨by rfl, ?hy23_100⟩) (by with_reducible assumption) ?rest23_100
              case hy23_100 => (intro V_ hSw; (try dsimp only at hSw); go_simp; (try with_reducible rfl))
              case' rest23_100 => skip
              try simp only [Act.put, List.setIfInBounds_toArray, List.set_cons_zero, List.set_cons_succ]
              refine wpAnyH_take (i := 24) (oi := ⟨some 57, _, _, _, _, some (18, true)⟩) (v := ?v24_101) rfl (by kernel_rfl) (by kernel_rfl) (by kernel_rfl) (fun _ _ _ h => h) (Or.inl ⟨by rfl, ?hy24_101⟩) (by with_reducible assumption) ?rest24_101
              case hy24_101 => (intro V_ hSw; (try dsimp only at hSw); go_simp; (try with_reducible rfl))
              case' rest24_101 => skip
              try simp only [Act.put, List.setIfInBounds_toArray, List.set_cons_zero, List.set_cons_succ]
              refine wpAnyH_ready (rs := [25]) (by kernel_rfl) (by simp) ?_
              refine AllReadyH.cons (o := ⟨some 58, _, _, _, _, some (18, true)⟩) rfl (fun K hK => ?_) ?_
              · go_simp
                refine (spans_Meets.calls d.f1 s _).mono ?_
                rintro e w8 ⟨rfl, hb⟩
                have HX_ := Aside0.mk (td_kept HX.out hb)
                clear HX
                have HX := Aside0.mk HX_.out
                clear HX_
                have HM_ := Aside0.mk (td_kept HM.out hb)
                clear HM
                have HM := Aside0.mk HM_.out
                clear HM_
                have HT_ := Aside0.mk (HT.out.step hb)
                clear HT
                have HT := Aside0.mk HT_.out
                clear HT_
                clear hb
                rw [HMT.out]
                refine hK.out _ _ ⟨HCL.out _ (below_step HW2.out HT.out.below), (blk_cell HX.out 0).trans rfl, (blk_cell HX.out 1).trans rfl⟩ (fun hHeld => ?_)
                clear hK K
                try simp only [Act.put, List.setIfInBounds_toArray, List.set_cons_zero, List.set_cons_succ]
                refine wpAnyH_take (i := 26) (oi := ⟨some 59, _, _, _, _, none⟩) (v := ?v26_102) rfl (by kernel_rfl) (by kernel_rfl) (by kernel_rfl) (fun _ _ _ h => h) (Or.inl ⟨by rfl, ?hy26_102⟩) (by with_reducible assumption) ?rest26_102
                case hy26_102 => (intro V_ hSw; (try dsimp only at hSw); go_simp; (try with_reducible rfl))
                case' rest26_102 => skip
                try simp only [Act.put, List.setIfInBounds_toArray, List.set_cons_zero, List.set_cons_succ]
                refine wpAnyH_take (i := 27) (oi := ⟨some 60, _, _, _, _, none⟩) (v := ?v27_103) rfl (by kernel_rfl) (by kernel_rfl) (by kernel_rfl) (fun _ _ _ h => h) (Or.inl ⟨by rfl, ?hy27_103⟩) (by with_reducible assumption) ?rest27_103
                case hy27_103 => (intro V_ hSw; (try dsimp only at hSw); go_simp; (try with_reducible rfl))
                case' rest27_103 => skip
                try simp only [Act.put, List.setIfInBounds_toArray, List.set_cons_zero, List.set_cons_succ]
                refine wpAnyH_take (i := 28) (oi := ⟨some 61, _, _, _, _, some (27, true)⟩) (v := ?v28_104) rfl (by kernel_rfl) (by kernel_rfl) (by kernel_rfl) (fun _ _ _ h => h) (Or.inl ⟨by rfl, ?hy28_104⟩) (by with_reducible assumption) ?rest28_104
                case hy28_104 => (intro V_ hSw; (try dsimp only at hSw); go_simp; (try with_reducible rfl))
                case' rest28_104 => skip
                try simp only [Act.put, List.setIfInBounds_toArray, List.set_cons_zero, List.set_cons_succ]
                refine wpAnyH_take (i := 29) (oi := ⟨some 62, _, _, _, _, some (27, true)⟩) (v := ?v29_105) rfl (by kernel_rfl) (by kernel_rfl) (by kernel_rfl) (fun _ _ _ h => h) (Or.inl ⟨by rfl, ?hy29_105⟩) (by with_reducible assumption) ?rest29_105
                case hy29_105 => (intro V_ hSw; (try dsimp only at hSw); go_simp; (try with_reducible rfl))
                case' rest29_105 => skip
                try simp only [Act.put, List.setIfInBounds_toArray, List.set_cons_zero, List.set_cons_succ]
                refine wpAnyH_take (i := 30) (oi := ⟨some 63, _, _, _, _, some (27, true)⟩) (v := ?v30_106) rfl (by kernel_rfl) (by kernel_rfl) (by kernel_rfl) (fun _ _ _ h => h) (Or.inl ⟨by rfl, ?hy30_106⟩) (by with_reducible assumption) ?rest30_106
                case hy30_106 => (intro V_ hSw; (try dsimp only at hSw); go_simp; (try with_reducible rfl))
                case' rest30_106 => skip
                try simp only [Act.put, List.setIfInBounds_toArray, List.set_cons_zero, List.set_cons_succ]
                refine wpAnyH_take (i := 31) (oi := ⟨some 64, _, _, _, _, some (30, false)⟩) rfl (by kernel_rfl) (by kernel_rfl) (by kernel_rfl) (fun _ _ _ h => h) (Or.inr ⟨by rfl, rfl⟩) (by with_reducible assumption) ?_
                try simp only [Act.put, List.setIfInBounds_toArray, List.set_cons_zero, List.set_cons_succ]
                refine wpAnyH_take (i := 32) (oi := ⟨some 65, _, _, _, _, some (30, false)⟩) rfl (by kernel_rfl) (by kernel_rfl) (by kernel_rfl) (fun _ _ _ h => h) (Or.inr ⟨by rfl, rfl⟩) (by with_reducible assumption) ?_
                try simp only [Act.put, List.setIfInBounds_toArray, List.set_cons_zero, List.set_cons_succ]
                refine wpAnyH_take (i := 33) (oi := ⟨some 66, _, _, _, _, some (30, false)⟩) rfl (by kernel_rfl) (by kernel_rfl) (by kernel_rfl) (fun _ _ _ h => h) (Or.inr ⟨by rfl, rfl⟩) (by with_reducible assumption) ?_
                try simp only [Act.put, List.setIfInBounds_toArray, List.set_cons_zero, List.set_cons_succ]
                refine wpAnyH_take (i := 34) (oi := ⟨some 67, _, _, _, _, some (30, false)⟩) rfl (by kernel_rfl) (by kernel_rfl) (by kernel_rfl) (fun _ _ _ h => h) (Or.inr ⟨by rfl, rfl⟩) (by with_reducible assumption) ?_
                try simp only [Act.put, List.setIfInBounds_toArray, List.set_cons_zero, List.set_cons_succ]
                refine wpAnyH_take (i := 35) (oi := ⟨some 68, _, _, _, _, some (30, false)⟩) rfl (by kernel_rfl) (by kernel_rfl) (by kernel_rfl) (fun _ _ _ h => h) (Or.inr ⟨by rfl, rfl⟩) (by with_reducible assumption) ?_
                try simp only [Act.put, List.setIfInBounds_toArray, List.set_cons_zero, List.set_cons_succ]
                refine wpAnyH_take (i := 36) (oi := ⟨some 69, _, _, _, _, some (30, false)⟩) rfl (by kernel_rfl) (by kernel_rfl) (by kernel_rfl) (fun _ _ _ h => h) (Or.inr ⟨by rfl, rfl⟩) (by with_reducible assumption) ?_
                try simp only [Act.put, List.setIfInBounds_toArray, List.set_cons_zero, List.set_cons_succ]
                refine wpAnyH_take (i := 37) (oi := ⟨some 70, _, _, _, _, some (30, false)⟩) rfl (by kernel_rfl) (by kernel_rfl) (by kernel_rfl) (fun _ _ _ h => h) (Or.inr ⟨by rfl, rfl⟩) (by with_reducible assumption) ?_
                try simp only [Act.put, List.setIfInBounds_toArray, List.set_cons_zero, List.set_cons_succ]
                refine wpAnyH_take (i := 38) (oi := ⟨some 71, _, _, _, _, some (27, true)⟩) (v := ?v38_114) rfl (by kernel_rfl) (by kernel_rfl) (by kernel_rfl) (fun _ _ _ h => h) (Or.inl ⟨by rfl, ?hy38_114⟩) (by with_reducible assumption) ?rest38_114
                case hy38_114 => (intro V_ hSw; (try dsimp only at hSw); go_simp; (try with_reducible rfl))
                case' rest38_114 => skip
                try simp only [Act.put, List.setIfInBounds_toArray, List.set_cons_zero, List.set_cons_succ]
                refine wpAnyH_take (i := 39) (oi := ⟨some 72, _, _, _, _, none⟩) (v := ?v39_115) rfl (by kernel_rfl) (by kernel_rfl) (by kernel_rfl) (fun _ _ _ h => h) (Or.inl ⟨by rfl, ?hy39_115⟩) (by with_reducible assumption) ?rest39_115
                case hy39_115 => (intro V_ hSw; (try dsimp only at hSw); go_simp; (try with_reducible rfl))
                case' rest39_115 => skip
                try simp only [Act.put, List.setIfInBounds_toArray, List.set_cons_zero, List.set_cons_succ]
                refine wpAnyH_done (by kernel_rfl) ?_ _
                refine NoPanic.normal ?_
                clear hHeld
                go_upto_region 11 with fail
                refine wp_region_noPanic ?_
                refine wp_region_held_drew (S := (fun V => V.cell? (ad2.add (i * 6)) = some (.int .i64 d.f0) ∧ V.cell? ⟨(ad2.add (i * 6)).block, (ad2.add (i * 6)).off + 3, none⟩ = some (.int .i64 d.f2.f0) ∧ V.cell? ⟨(ad2.add (i * 6)).block, (ad2.add (i * 6)).off + 4, none⟩ = some (.int .i64 d.f2.f1))) (by kernel_rfl) ⟨(HCL.out _ (below_step HW2.out (HT.out.step (below_drew1 (Below.refl _ _))).below)).1, (HCL.out _ (below_step HW2.out (HT.out.step (below_drew1 (Below.refl _ _))).below)).2.2.2.1, (HCL.out _ (below_step HW2.out (HT.out.step (below_drew1 (Below.refl _ _))).below)).2.2.2.2.1⟩ (fun hHeld => ?_)
                generalize hwd : World.drew _ = wd at hHeld ⊢
                have hb : Below w8.heap.size w8 wd := by rw [← hwd]; exact below_drew1 (Below.refl _ _)
                clear hwd
                have HX_ := Aside0.mk (td_kept HX.out hb)
                clear HX
                have HX := Aside0.mk HX_.out
                clear HX_
                have HT_ := Aside0.mk (HT.out.step hb)
                clear HT
                have HT := Aside0.mk HT_.out
                clear HT_
                have HM_ := Aside0.mk (td_kept HM.out hb)
                clear HM
                have HM := Aside0.mk HM_.out
                clear HM_
                clear hb
                refine wpAnyH_take (i := 1) (oi := ⟨some 74, _, _, _, _, none⟩) (v := ?v1_116) rfl (by kernel_rfl) (by kernel_rfl) (by kernel_rfl) (fun _ _ _ h => h) (Or.inl ⟨by rfl, ?hy1_116⟩) (by with_reducible assumption) ?rest1_116
                case hy1_116 => (intro V_ hSw; (try dsimp only at hSw); go_simp; (try with_reducible rfl))
                case' rest1_116 => skip
                try simp only [Act.put, List.setIfInBounds_toArray, List.set_cons_zero, List.set_cons_succ]
                refine wpAnyH_take (i := 2) (oi := ⟨some 75, _, _, _, _, none⟩) (v := ?v2_117) rfl (by kernel_rfl) (by kernel_rfl) (by kernel_rfl) (fun _ _ _ h => h) (Or.inl ⟨by rfl, ?hy2_117⟩) (by with_reducible assumption) ?rest2_117
                case hy2_117 => (intro V_ hSw; (try dsimp only at hSw); go_simp; (try with_reducible rfl))
                case' rest2_117 => skip
                try simp only [Act.put, List.setIfInBounds_toArray, List.set_cons_zero, List.set_cons_succ]
                refine wpAnyH_take (i := 3) (oi := ⟨some 76, _, _, _, _, none⟩) (v := ?v3_118) rfl (by kernel_rfl) (by kernel_rfl) (by kernel_rfl) (fun _ _ _ h => h) (Or.inl ⟨by rfl, ?hy3_118⟩) (by with_reducible assumption) ?rest3_118
                case hy3_118 => (intro V_ hSw; (try dsimp only at hSw); go_simp; (try with_reducible rfl))
                case' rest3_118 => skip
                try simp only [Act.put, List.setIfInBounds_toArray, List.set_cons_zero, List.set_cons_succ]
                refine wpAnyH_take (i := 4) (oi := ⟨some 77, _, _, _, _, none⟩) (v := ?v4_119) rfl (by kernel_rfl) (by kernel_rfl) (by kernel_rfl) (fun _ _ _ h => h) (Or.inl ⟨by rfl, ?hy4_119⟩) (by with_reducible assumption) ?rest4_119
                case hy4_119 => (intro V_ hSw; (try dsimp only at hSw); go_simp; (try with_reducible rfl))
                case' rest4_119 => skip
                try simp only [Act.put, List.setIfInBounds_toArray, List.set_cons_zero, List.set_cons_succ]
                refine wpAnyH_take (i := 5) (oi := ⟨some 78, _, _, _, _, none⟩) (v := ?v5_120) rfl (by kernel_rfl) (by kernel_rfl) (by kernel_rfl) (fun _ _ _ h => h) (Or.inl ⟨by rfl, ?hy5_120⟩) (by with_reducible assumption) ?rest5_120
                case hy5_120 => (intro V_ hSw; (try dsimp only at hSw); go_simp; (try with_reducible rfl))
                case' rest5_120 => skip
                try simp only [Act.put, List.setIfInBounds_toArray, List.set_cons_zero, List.set_cons_succ]
                refine wpAnyH_ready (rs := [0]) (by kernel_rfl) (by simp) ?_
                refine AllReadyH.cons (o := ⟨some 73, _, _, _, _, none⟩) rfl (fun K hK => ?_) ?_
                · have o0 : wd.cell? ⟨gm, 0, none⟩ = some (.int .i64 m.1) := (blk_cell HM.out 0).trans rfl
                  have o1 : wd.cell? ⟨gm, 1, none⟩ = some (.int .i64 m.2) := (blk_cell HM.out 1).trans rfl
                  go_simp
                  clear o0 o1
                  refine hK.out _ _ hHeld (fun hHeld => ?_)
                  clear hK K
                  try simp only [Act.put, List.setIfInBounds_toArray, List.set_cons_zero, List.set_cons_succ]
                  refine wpAnyH_ready (rs := [6]) (by kernel_rfl) (by simp) ?_
                  refine AllReadyH.cons (o := ⟨some 79, _, _, _, _, none⟩) rfl (fun K hK => ?_) ?_
                  · refine Kd.R_lit_step k31 (w0 := wd) wd.heap.size 31 ?hg (N := 79) ?hd (xs := ([⟨(m).1, (m).2⟩, ⟨((d.f2.f0, d.f2.f1)).1, ((d.f2.f0, d.f2.f1)).2⟩] : List S31)) (inner := [.int .i64 (m).1, .int .i64 (m).2, .int .i64 ((d.f2.f0, d.f2.f1)).1, .int .i64 ((d.f2.f0, d.f2.f1)).2]) (ok := fun _ => True) (okp := fun _ => True) ?hr ?hp (fun _ hk => hk) trivial (Below.refl _ _) (Nat.le_refl _) (by simp) ?_
                    case hg => rfl
                    case hd => rfl
                    case hr => first | (go_simp; done) | (go_simp; rfl)
                    case hp => exact two_rep _ _ _ _ _
                    intro vy wl hoy hb hgy hny
                    obtain ⟨Ay, cy, ey⟩ := Kd.R_slice hoy
                    subst ey
                    have HCY := Aside0.mk (Kd.R_reads' hoy).2.2
                    have HCLN := Aside0.mk (Kd.R_reads' hoy).2.1
                    clear hoy hgy hny
                    have HX_ := Aside0.mk (td_kept HX.out hb)
                    clear HX
                    have HX := Aside0.mk HX_.out
                    clear HX_
                    have HT_ := Aside0.mk (HT.out.step hb)
                    clear HT
                    have HT := Aside0.mk HT_.out
                    clear HT_
                    have HM_ := Aside0.mk (td_kept HM.out hb)
                    clear HM
                    have HM := Aside0.mk HM_.out
                    clear HM_
                    clear hb
                    refine hK.out _ _ ⟨(HCL.out _ (below_step HW2.out HT.out.below)).1, (HCL.out _ (below_step HW2.out HT.out.below)).2.2.2.1, (HCL.out _ (below_step HW2.out HT.out.below)).2.2.2.2.1⟩ (fun hHeld => ?_)
                    clear hK K
                    try simp only [Act.put, List.setIfInBounds_toArray, List.set_cons_zero, List.set_cons_succ]
                    refine wpAnyH_ready (rs := [7]) (by kernel_rfl) (by simp) ?_
                    refine AllReadyH.cons (o := ⟨some 80, _, _, _, _, none⟩) rfl (fun K hK => ?_) ?_
                    · go_simp
                      refine (td_max2 m (d.f2.f0, d.f2.f1) _ _ _ HCY.out HCLN.out).mono ?_
                      rintro e w9 ⟨rfl, hb⟩
                      clear HCY HCLN
                      have HX_ := Aside0.mk (td_kept HX.out hb)
                      clear HX
                      have HX := Aside0.mk HX_.out
                      clear HX_
                      have HT_ := Aside0.mk (HT.out.step hb)
                      clear HT
                      have HT := Aside0.mk HT_.out
                      clear HT_
                      have HM_ := Aside0.mk (td_kept HM.out hb)
                      clear HM
                      have HM := Aside0.mk HM_.out
                      clear HM_
                      clear hb
                      refine hK.out _ _ ⟨(HCL.out _ (below_step HW2.out HT.out.below)).1, (HCL.out _ (below_step HW2.out HT.out.below)).2.2.2.1, (HCL.out _ (below_step HW2.out HT.out.below)).2.2.2.2.1⟩ (fun hHeld => ?_)
                      clear hK K
                      try simp only [Act.put, List.setIfInBounds_toArray, List.set_cons_zero, List.set_cons_succ]
                      refine wpAnyH_ready (rs := [8]) (by kernel_rfl) (by simp) ?_
                      refine AllReadyH.cons (o := ⟨none, _, _, _, _, none⟩) rfl (fun K hK => ?_) ?_
                      · have o0 : w9.cell? ⟨gm, 0, none⟩ = some (.int .i64 m.1) := (blk_cell HM.out 0).trans rfl
                        have o1 : w9.cell? ⟨gm, 1, none⟩ = some (.int .i64 m.2) := (blk_cell HM.out 1).trans rfl
                        have f0 := blk_frozen HM.out 0
                        have f1 := blk_frozen HM.out 1
                        go_simp
                        clear o0 o1 f0 f1
                        obtain ⟨m', hm'⟩ : ∃ m', tmx m (d.f2.f0, d.f2.f1) = m' := ⟨_, rfl⟩
                        rw [hm']
                        have HMM := Aside0.mk hm'
                        clear hm'
                        have hm1 := blk_put (cs' := #[.int .i64 m'.1, .int .i64 m.2]) HM.out 0 (.int .i64 m'.1) rfl
                        have hm2 := blk_put (cs' := #[.int .i64 m'.1, .int .i64 m'.2]) hm1 1 (.int .i64 m'.2) rfl
                        obtain ⟨q1, q2, A_, c_, q3, q4⟩ := HT.out
                        have HT_ := Aside0.mk ((((TdA.mk q1 q2 q3 q4).far HM.out (i := 0) (by decide) HMN.out (fun e => HMG.out (congrArg some e.symm)) (.int .i64 m'.1)).far hm1 (i := 1) (by decide) HMN.out (fun e => HMG.out (congrArg some e.symm)) (.int .i64 m'.2)).at_)
                        have HX_ := Aside0.mk (blk_far (blk_far HX.out (p := ⟨gm, 0, none⟩) HMX.out (.int .i64 m'.1)) (p := ⟨gm, 1, none⟩) HMX.out (.int .i64 m'.2))
                        have HM_ := Aside0.mk hm2
                        clear HT HX HM hm1 hm2 q1 q2 q3 q4
                        have HT := Aside0.mk HT_.out
                        have HX := Aside0.mk HX_.out
                        have HM := Aside0.mk HM_.out
                        clear HT_ HX_ HM_
                        refine hK.out _ _ ⟨(HCL.out _ (below_step HW2.out HT.out.below)).1, (HCL.out _ (below_step HW2.out HT.out.below)).2.2.2.1, (HCL.out _ (below_step HW2.out HT.out.below)).2.2.2.2.1⟩ (fun hHeld => ?_)
                        clear hK K
                        try simp only [Act.put, List.setIfInBounds_toArray, List.set_cons_zero, List.set_cons_succ]
                        refine wpAnyH_done (by kernel_rfl) ?_ _
                        refine NoPanic.normal ?_
                        clear hHeld
                        go_wp2_with fail
                        go_roundg (64 - i)
                        case measure => have h1 := HK.out; have h2 := HH.out.2; omega
                        case rel => exact ⟨i + 1, t', m', congrArg (Value.int .i64) (by first | exact HWI.out | exact HWI2.out | rfl | omega), ⟨by have h1 := HK.out; have h2 := HH.out.2; omega⟩, ⟨by have q := HEX.out; rw [HAS.out, if_pos rfl, HI.out.2.2, HMM.out] at q; have h1 := HI.out.1; exact ⟨by omega, q.1.trans HI.out.2.1, q.2.2⟩⟩, HT, HX, HM⟩
                      exact AllReadyH.nil
                    exact AllReadyH.nil
                  exact AllReadyH.nil
                exact AllReadyH.nil
              exact AllReadyH.nil
            exact AllReadyH.nil
          case neg =>
            have e0 : (o == 0) = false := beq_eq_false_iff_ne.mpr ho
            by_cases ho2 : o = d.f3
            case pos =>
              have e1 : (o != d.f3) = false := by rw [ho2]; simp
              have e2 : (o == d.f3) = true := beq_iff_eq.mpr ho2
              have HAS := Aside0.mk (show asks s o (⟨d.f1, (d.f2.f0, d.f2.f1), d.f3⟩ : Rd S24) = false from by unfold asks; rw [show ((⟨d.f1, (d.f2.f0, d.f2.f1), d.f3⟩ : Rd S24)).s = d.f1 from rfl, show ((⟨d.f1, (d.f2.f0, d.f2.f1), d.f3⟩ : Rd S24)).o = d.f3 from rfl, hbm, e0, ← ho2]; simp)
              clear hbm ho ho2
              go_upto_region 10 with fail
              refine wp_region_noPanic ?_
              refine wp_region_held_drew (S := (fun V => (V.cell? (ad2.add (i * 6)) = some (.int .i64 d.f0) ∧ V.cell? ⟨(ad2.add (i * 6)).block, (ad2.add (i * 6)).off + 1, none⟩ = some (.string d.f1.f0) ∧ V.cell? ⟨(ad2.add (i * 6)).block, (ad2.add (i * 6)).off + 2, none⟩ = some (.string d.f1.f1) ∧ V.cell? ⟨(ad2.add (i * 6)).block, (ad2.add (i * 6)).off + 3, none⟩ = some (.int .i64 d.f2.f0) ∧ V.cell? ⟨(ad2.add (i * 6)).block, (ad2.add (i * 6)).off + 4, none⟩ = some (.int .i64 d.f2.f1) ∧ V.cell? ⟨(ad2.add (i * 6)).block, (ad2.add (i * 6)).off + 5, none⟩ = some (.int .i64 d.f3)) ∧ V.cell? ⟨n, 0, none⟩ = some (.string s.f0) ∧ V.cell? ⟨n, 1, none⟩ = some (.string s.f1))) (by kernel_rfl) ⟨HCL.out _ (below_step HW2.out (HT.out.step (below_drew1 (Below.refl _ _))).below), (blk_cell (td_kept HX.out (below_drew1 (Below.refl _ _))) 0).trans rfl, (blk_cell (td_kept HX.out (below_drew1 (Below.refl _ _))) 1).trans rfl⟩ (fun hHeld => ?_)
              generalize hwd : World.drew _ = wd at hHeld ⊢
              have hb : Below wr.heap.size wr wd := by rw [← hwd]; exact below_drew1 (Below.refl _ _)
              clear hwd
              have HX_ := Aside0.mk (td_kept HX.out hb)
              clear HX
              have HX := Aside0.mk HX_.out
              clear HX_
              have HT_ := Aside0.mk (HT.out.step hb)
              clear HT
              have HT := Aside0.mk HT_.out
              clear HT_
              have HM_ := Aside0.mk (td_kept HM.out hb)
              clear HM
              have HM := Aside0.mk HM_.out
              clear HM_
              clear hb
              refine wpAnyH_take (i := 0) (oi := ⟨some 33, _, _, _, _, none⟩) (v := ?v0_121) rfl (by kernel_rfl) (by kernel_rfl) (by kernel_rfl) (fun _ _ _ h => h) (Or.inl ⟨by rfl, ?hy0_121⟩) (by with_reducible assumption) ?rest0_121
              case hy0_121 => (intro V_ hSw; (try dsimp only at hSw); go_simp; (try with_reducible rfl))
              case' rest0_121 => skip
              try simp only [Act.put, List.setIfInBounds_toArray, List.set_cons_zero, List.set_cons_succ]
              refine wpAnyH_take (i := 1) (oi := ⟨some 34, _, _, _, _, none⟩) (v := ?v1_122) rfl (by kernel_rfl) (by kernel_rfl) (by kernel_rfl) (fun _ _ _ h => h) (Or.inl ⟨by rfl, ?hy1_122⟩) (by with_reducible assumption) ?rest1_122
              case hy1_122 => (intro V_ hSw; (try dsimp only at hSw); go_simp; (try with_reducible rfl))
              case' rest1_122 => skip
              try simp only [Act.put, List.setIfInBounds_toArray, List.set_cons_zero, List.set_cons_succ]
              refine wpAnyH_take (i := 2) (oi := ⟨some 35, _, _, _, _, none⟩) (v := ?v2_123) rfl (by kernel_rfl) (by kernel_rfl) (by kernel_rfl) (fun _ _ _ h => h) (Or.inl ⟨by rfl, ?hy2_123⟩) (by with_reducible assumption) ?rest2_123
              case hy2_123 => (intro V_ hSw; (try dsimp only at hSw); go_simp; (try with_reducible rfl))
              case' rest2_123 => skip
              try simp only [Act.put, List.setIfInBounds_toArray, List.set_cons_zero, List.set_cons_succ]
              refine wpAnyH_take (i := 3) (oi := ⟨some 36, _, _, _, _, none⟩) (v := ?v3_124) rfl (by kernel_rfl) (by kernel_rfl) (by kernel_rfl) (fun _ _ _ h => h) (Or.inl ⟨by rfl, ?hy3_124⟩) (by with_reducible assumption) ?rest3_124
              case hy3_124 => (intro V_ hSw; (try dsimp only at hSw); go_simp; (try with_reducible rfl))
              case' rest3_124 => skip
              try simp only [Act.put, List.setIfInBounds_toArray, List.set_cons_zero, List.set_cons_succ]
              refine wpAnyH_take (i := 4) (oi := ⟨some 37, _, _, _, _, none⟩) (v := ?v4_125) rfl (by kernel_rfl) (by kernel_rfl) (by kernel_rfl) (fun _ _ _ h => h) (Or.inl ⟨by rfl, ?hy4_125⟩) (by with_reducible assumption) ?rest4_125
              case hy4_125 => (intro V_ hSw; (try dsimp only at hSw); go_simp; (try with_reducible rfl))
              case' rest4_125 => skip
              try simp only [Act.put, List.setIfInBounds_toArray, List.set_cons_zero, List.set_cons_succ]
              refine wpAnyH_take (i := 5) (oi := ⟨some 38, _, _, _, _, none⟩) (v := ?v5_126) rfl (by kernel_rfl) (by kernel_rfl) (by kernel_rfl) (fun _ _ _ h => h) (Or.inl ⟨by rfl, ?hy5_126⟩) (by with_reducible assumption) ?rest5_126
              case hy5_126 => (intro V_ hSw; (try dsimp only at hSw); go_simp; (try with_reducible rfl))
              case' rest5_126 => skip
              try simp only [Act.put, List.setIfInBounds_toArray, List.set_cons_zero, List.set_cons_succ]
              refine wpAnyH_take (i := 6) (oi := ⟨some 39, _, _, _, _, none⟩) (v := ?v6_127) rfl (by kernel_rfl) (by kernel_rfl) (by kernel_rfl) (fun _ _ _ h => h) (Or.inl ⟨by rfl, ?hy6_127⟩) (by with_reducible assumption) ?rest6_127
              case hy6_127 => (intro V_ hSw; (try dsimp only at hSw); go_simp; (try with_reducible rfl))
              case' rest6_127 => skip
              try simp only [Act.put, List.setIfInBounds_toArray, List.set_cons_zero, List.set_cons_succ]
              refine wpAnyH_take (i := 7) (oi := ⟨some 40, _, _, _, _, none⟩) (v := ?v7_128) rfl (by kernel_rfl) (by kernel_rfl) (by kernel_rfl) (fun _ _ _ h => h) (Or.inl ⟨by rfl, ?hy7_128⟩) (by with_reducible assumption) ?rest7_128
              case hy7_128 => (intro V_ hSw; (try dsimp only at hSw); go_simp; (try with_reducible rfl))
              case' rest7_128 => skip
              try simp only [Act.put, List.setIfInBounds_toArray, List.set_cons_zero, List.set_cons_succ]
              refine wpAnyH_take (i := 8) (oi := ⟨some 41, _, _, _, _, none⟩) (v := ?v8_129) rfl (by kernel_rfl) (by kernel_rfl) (by kernel_rfl) (fun _ _ _ h => h) (Or.inl ⟨by rfl, ?hy8_129⟩) (by with_reducible assumption) ?rest8_129
              case hy8_129 => (intro V_ hSw; (try dsimp only at hSw); go_simp; (try with_reducible rfl))
              case' rest8_129 => skip
              try simp only [Act.put, List.setIfInBounds_toArray, List.set_cons_zero, List.set_cons_succ]
              refine wpAnyH_take (i := 9) (oi := ⟨some 42, _, _, _, _, none⟩) (v := ?v9_130) rfl (by kernel_rfl) (by kernel_rfl) (by kernel_rfl) (fun _ _ _ h => h) (Or.inl ⟨by rfl, ?hy9_130⟩) (by with_reducible assumption) ?rest9_130
              case hy9_130 => (intro V_ hSw; (try dsimp only at hSw); go_simp; (try with_reducible rfl))
              case' rest9_130 => skip
              try simp only [Act.put, List.setIfInBounds_toArray, List.set_cons_zero, List.set_cons_succ]
              refine wpAnyH_take (i := 10) (oi := ⟨some 43, _, _, _, _, none⟩) (v := ?v10_131) rfl (by kernel_rfl) (by kernel_rfl) (by kernel_rfl) (fun _ _ _ h => h) (Or.inl ⟨by rfl, ?hy10_131⟩) (by with_reducible assumption) ?rest10_131
              case hy10_131 => (intro V_ hSw; (try dsimp only at hSw); go_simp; (try with_reducible rfl))
              case' rest10_131 => skip
              try simp only [Act.put, List.setIfInBounds_toArray, List.set_cons_zero, List.set_cons_succ]
              refine wpAnyH_take (i := 11) (oi := ⟨some 44, _, _, _, _, none⟩) (v := ?v11_132) rfl (by kernel_rfl) (by kernel_rfl) (by kernel_rfl) (fun _ _ _ h => h) (Or.inl ⟨by rfl, ?hy11_132⟩) (by with_reducible assumption) ?rest11_132
              case hy11_132 => (intro V_ hSw; (try dsimp only at hSw); go_simp; (try with_reducible rfl))
              case' rest11_132 => skip
              try simp only [Act.put, List.setIfInBounds_toArray, List.set_cons_zero, List.set_cons_succ]
              refine wpAnyH_take (i := 12) (oi := ⟨some 45, _, _, _, _, none⟩) (v := ?v12_133) rfl (by kernel_rfl) (by kernel_rfl) (by kernel_rfl) (fun _ _ _ h => h) (Or.inl ⟨by rfl, ?hy12_133⟩) (by with_reducible assumption) ?rest12_133
              case hy12_133 => (intro V_ hSw; (try dsimp only at hSw); go_simp; (try with_reducible rfl))
              case' rest12_133 => skip
              try simp only [Act.put, List.setIfInBounds_toArray, List.set_cons_zero, List.set_cons_succ]
              refine wpAnyH_take (i := 13) (oi := ⟨some 46, _, _, _, _, none⟩) (v := ?v13_134) rfl (by kernel_rfl) (by kernel_rfl) (by kernel_rfl) (fun _ _ _ h => h) (Or.inl ⟨by rfl, ?hy13_134⟩) (by with_reducible assumption) ?rest13_134
              case hy13_134 => (intro V_ hSw; (try dsimp only at hSw); go_simp; (try with_reducible rfl))
              case' rest13_134 => skip
              try simp only [Act.put, List.setIfInBounds_toArray, List.set_cons_zero, List.set_cons_succ]
              refine wpAnyH_take (i := 14) (oi := ⟨some 47, _, _, _, _, none⟩) (v := ?v14_135) rfl (by kernel_rfl) (by kernel_rfl) (by kernel_rfl) (fun _ _ _ h => h) (Or.inl ⟨by rfl, ?hy14_135⟩) (by with_reducible assumption) ?rest14_135
              case hy14_135 => (intro V_ hSw; (try dsimp only at hSw); go_simp; (try with_reducible rfl))
              case' rest14_135 => skip
              try simp only [Act.put, List.setIfInBounds_toArray, List.set_cons_zero, List.set_cons_succ]
              refine wpAnyH_take (i := 15) (oi := ⟨some 48, _, _, _, _, none⟩) (v := ?v15_136) rfl (by kernel_rfl) (by kernel_rfl) (by kernel_rfl) (fun _ _ _ h => h) (Or.inl ⟨by rfl, ?hy15_136⟩) (by with_reducible assumption) ?rest15_136
              case hy15_136 => (intro V_ hSw; (try dsimp only at hSw); go_simp; (try with_reducible rfl))
              case' rest15_136 => skip
              try simp only [Act.put, List.setIfInBounds_toArray, List.set_cons_zero, List.set_cons_succ]
              refine wpAnyH_ready (rs := [16]) (by kernel_rfl) (by simp) ?_
              refine AllReadyH.cons (o := ⟨some 49, _, _, _, _, none⟩) rfl (fun K hK => ?_) ?_
              · go_simp
                refine (td_add wn wd g t d.f1 (d.f2.f0, d.f2.f1) d.f3 HT.out (by have h1 := HI.out.1; have h2 := HH.out.2; omega)).mono ?_
                rintro e w7 ⟨rfl, hT, hN⟩
                have HX_ := Aside0.mk (hN.blk HX.out HNG.out (by decide))
                clear HX
                have HX := Aside0.mk HX_.out
                clear HX_
                have HM_ := Aside0.mk (hN.blk HM.out HMG.out (by decide))
                clear HM
                have HM := Aside0.mk HM_.out
                clear HM_
                clear HT
                have HT := Aside0.mk hT
                clear hT hN
                rw [HERR.out]
                have hq := HT.out
                rw [HERR.out, if_pos rfl, HT'.out] at hq
                clear HT
                have HT := Aside0.mk hq
                clear hq
                refine hK.out _ _ ⟨HCL.out _ (below_step HW2.out HT.out.below), (blk_cell HX.out 0).trans rfl, (blk_cell HX.out 1).trans rfl⟩ (fun hHeld => ?_)
                clear hK K
                try simp only [Act.put, List.setIfInBounds_toArray, List.set_cons_zero, List.set_cons_succ]
                refine wpAnyH_take (i := 17) (oi := ⟨some 50, _, _, _, _, none⟩) (v := ?v17_137) rfl (by kernel_rfl) (by kernel_rfl) (by kernel_rfl) (fun _ _ _ h => h) (Or.inl ⟨by rfl, ?hy17_137⟩) (by with_reducible assumption) ?rest17_137
                case hy17_137 => (intro V_ hSw; (try dsimp only at hSw); go_simp; (try with_reducible rfl))
                case' rest17_137 => skip
                try simp only [Act.put, List.setIfInBounds_toArray, List.set_cons_zero, List.set_cons_succ]
                refine wpAnyH_take (i := 18) (oi := ⟨some 51, _, _, _, _, none⟩) (v := ?v18_138) rfl (by kernel_rfl) (by kernel_rfl) (by kernel_rfl) (fun _ _ _ h => h) (Or.inl ⟨by rfl, ?hy18_138⟩) (by with_reducible assumption) ?rest18_138
                case hy18_138 => (intro V_ hSw; (try dsimp only at hSw); go_simp; (try with_reducible rfl))
                case' rest18_138 => skip
                try simp only [Act.put, List.setIfInBounds_toArray, List.set_cons_zero, List.set_cons_succ]
                refine wpAnyH_take (i := 19) (oi := ⟨some 52, _, _, _, _, some (18, true)⟩) (v := ?v19_139) rfl (by kernel_rfl) (by kernel_rfl) (by kernel_rfl) (fun _ _ _ h => h) (Or.inl ⟨by rfl, ?hy19_139⟩) (by with_reducible assumption) ?rest19_139
                case hy19_139 => (intro V_ hSw; (try dsimp only at hSw); go_simp; (try with_reducible rfl))
                case' rest19_139 => skip
                try simp only [Act.put, List.setIfInBounds_toArray, List.set_cons_zero, List.set_cons_succ]
                refine wpAnyH_take (i := 20) (oi := ⟨some 53, _, _, _, _, some (18, true)⟩) (v := ?v20_140) rfl (by kernel_rfl) (by kernel_rfl) (by kernel_rfl) (fun _ _ _ h => h) (Or.inl ⟨by rfl, ?hy20_140⟩) (by with_reducible assumption) ?rest20_140
                case hy20_140 => (intro V_ hSw; (try dsimp only at hSw); go_simp; (try with_reducible rfl))
                case' rest20_140 => skip
                try simp only [Act.put, List.setIfInBounds_toArray, List.set_cons_zero, List.set_cons_succ]
                refine wpAnyH_take (i := 21) (oi := ⟨some 54, _, _, _, _, some (18, true)⟩) (v := ?v21_141) rfl (by kernel_rfl) (by kernel_rfl) (by kernel_rfl) (fun _ _ _ h => h) (Or.inl ⟨by rfl, ?hy21_141⟩) (by with_reducible assumption) ?rest21_141
                case hy21_141 => (intro V_ hSw; (try dsimp only at hSw); go_simp; (try with_reducible rfl))
                case' rest21_141 => skip
                try simp only [Act.put, List.setIfInBounds_toArray, List.set_cons_zero, List.set_cons_succ]
                refine wpAnyH_take (i := 22) (oi := ⟨some 55, _, _, _, _, some (18, true)⟩) (v := ?v22_142) rfl (by kernel_rfl) (by kernel_rfl) (by kernel_rfl) (fun _ _ _ h => h) (Or.inl ⟨by rfl, ?hy22_142⟩) (by with_reducible assumption) ?rest22_142
                case hy22_142 => (intro V_ hSw; (try dsimp only at hSw); go_simp; (try with_reducible rfl))
                case' rest22_142 => skip
                try simp only [Act.put, List.setIfInBounds_toArray, List.set_cons_zero, List.set_cons_succ]
                refine wpAnyH_take (i := 23) (oi := ⟨some 56, _, _, _, _, some (18, true)⟩) (v := ?v23_143) rfl (by kernel_rfl) (by kernel_rfl) (by kernel_rfl) (fun _ _ _ h => h) (Or.inl ⟨by rfl, ?hy23_143⟩) (by with_reducible assumption) ?rest23_143
                case hy23_143 => (intro V_ hSw; (try dsimp only at hSw); go_simp; (try with_reducible rfl))
                case' rest23_143 => skip
                try simp only [Act.put, List.setIfInBounds_toArray, List.set_cons_zero, List.set_cons_succ]
                refine wpAnyH_take (i := 24) (oi := ⟨some 57, _, _, _, _, some (18, true)⟩) (v := ?v24_144) rfl (by kernel_rfl) (by kernel_rfl) (by kernel_rfl) (fun _ _ _ h => h) (Or.inl ⟨by rfl, ?hy24_144⟩) (by with_reducible assumption) ?rest24_144
                case hy24_144 => (intro V_ hSw; (try dsimp only at hSw); go_simp; (try with_reducible rfl))
                case' rest24_144 => skip
                try simp only [Act.put, List.setIfInBounds_toArray, List.set_cons_zero, List.set_cons_succ]
                refine wpAnyH_ready (rs := [25]) (by kernel_rfl) (by simp) ?_
                refine AllReadyH.cons (o := ⟨some 58, _, _, _, _, some (18, true)⟩) rfl (fun K hK => ?_) ?_
                · go_simp
                  refine (spans_Meets.calls d.f1 s _).mono ?_
                  rintro e w8 ⟨rfl, hb⟩
                  have HX_ := Aside0.mk (td_kept HX.out hb)
                  clear HX
                  have HX := Aside0.mk HX_.out
                  clear HX_
                  have HM_ := Aside0.mk (td_kept HM.out hb)
                  clear HM
                  have HM := Aside0.mk HM_.out
                  clear HM_
                  have HT_ := Aside0.mk (HT.out.step hb)
                  clear HT
                  have HT := Aside0.mk HT_.out
                  clear HT_
                  clear hb
                  rw [HMT.out]
                  refine hK.out _ _ ⟨HCL.out _ (below_step HW2.out HT.out.below), (blk_cell HX.out 0).trans rfl, (blk_cell HX.out 1).trans rfl⟩ (fun hHeld => ?_)
                  clear hK K
                  try simp only [Act.put, List.setIfInBounds_toArray, List.set_cons_zero, List.set_cons_succ]
                  refine wpAnyH_take (i := 26) (oi := ⟨some 59, _, _, _, _, none⟩) (v := ?v26_145) rfl (by kernel_rfl) (by kernel_rfl) (by kernel_rfl) (fun _ _ _ h => h) (Or.inl ⟨by rfl, ?hy26_145⟩) (by with_reducible assumption) ?rest26_145
                  case hy26_145 => (intro V_ hSw; (try dsimp only at hSw); go_simp; (try with_reducible rfl))
                  case' rest26_145 => skip
                  try simp only [Act.put, List.setIfInBounds_toArray, List.set_cons_zero, List.set_cons_succ]
                  refine wpAnyH_take (i := 27) (oi := ⟨some 60, _, _, _, _, none⟩) (v := ?v27_146) rfl (by kernel_rfl) (by kernel_rfl) (by kernel_rfl) (fun _ _ _ h => h) (Or.inl ⟨by rfl, ?hy27_146⟩) (by with_reducible assumption) ?rest27_146
                  case hy27_146 => (intro V_ hSw; (try dsimp only at hSw); go_simp; (try with_reducible rfl))
                  case' rest27_146 => skip
                  try simp only [Act.put, List.setIfInBounds_toArray, List.set_cons_zero, List.set_cons_succ]
                  refine wpAnyH_take (i := 28) (oi := ⟨some 61, _, _, _, _, some (27, true)⟩) (v := ?v28_147) rfl (by kernel_rfl) (by kernel_rfl) (by kernel_rfl) (fun _ _ _ h => h) (Or.inl ⟨by rfl, ?hy28_147⟩) (by with_reducible assumption) ?rest28_147
                  case hy28_147 => (intro V_ hSw; (try dsimp only at hSw); go_simp; (try with_reducible rfl))
                  case' rest28_147 => skip
                  try simp only [Act.put, List.setIfInBounds_toArray, List.set_cons_zero, List.set_cons_succ]
                  refine wpAnyH_take (i := 29) (oi := ⟨some 62, _, _, _, _, some (27, true)⟩) (v := ?v29_148) rfl (by kernel_rfl) (by kernel_rfl) (by kernel_rfl) (fun _ _ _ h => h) (Or.inl ⟨by rfl, ?hy29_148⟩) (by with_reducible assumption) ?rest29_148
                  case hy29_148 => (intro V_ hSw; (try dsimp only at hSw); go_simp; (try with_reducible rfl))
                  case' rest29_148 => skip
                  try simp only [Act.put, List.setIfInBounds_toArray, List.set_cons_zero, List.set_cons_succ]
                  refine wpAnyH_take (i := 30) (oi := ⟨some 63, _, _, _, _, some (27, true)⟩) (v := ?v30_149) rfl (by kernel_rfl) (by kernel_rfl) (by kernel_rfl) (fun _ _ _ h => h) (Or.inl ⟨by rfl, ?hy30_149⟩) (by with_reducible assumption) ?rest30_149
                  case hy30_149 => (intro V_ hSw; (try dsimp only at hSw); go_simp; (try with_reducible rfl))
                  case' rest30_149 => skip
                  try simp only [Act.put, List.setIfInBounds_toArray, List.set_cons_zero, List.set_cons_succ]
                  refine wpAnyH_take (i := 31) (oi := ⟨some 64, _, _, _, _, some (30, false)⟩) (v := ?v31_150) rfl (by kernel_rfl) (by kernel_rfl) (by kernel_rfl) (fun _ _ _ h => h) (Or.inl ⟨by rfl, ?hy31_150⟩) (by with_reducible assumption) ?rest31_150
                  case hy31_150 => (intro V_ hSw; (try dsimp only at hSw); go_simp; (try with_reducible rfl))
                  case' rest31_150 => skip
                  try simp only [Act.put, List.setIfInBounds_toArray, List.set_cons_zero, List.set_cons_succ]
                  refine wpAnyH_take (i := 32) (oi := ⟨some 65, _, _, _, _, some (30, false)⟩) (v := ?v32_151) rfl (by kernel_rfl) (by kernel_rfl) (by kernel_rfl) (fun _ _ _ h => h) (Or.inl ⟨by rfl, ?hy32_151⟩) (by with_reducible assumption) ?rest32_151
                  case hy32_151 => (intro V_ hSw; (try dsimp only at hSw); go_simp; (try with_reducible rfl))
                  case' rest32_151 => skip
                  try simp only [Act.put, List.setIfInBounds_toArray, List.set_cons_zero, List.set_cons_succ]
                  refine wpAnyH_take (i := 33) (oi := ⟨some 66, _, _, _, _, some (30, false)⟩) (v := ?v33_152) rfl (by kernel_rfl) (by kernel_rfl) (by kernel_rfl) (fun _ _ _ h => h) (Or.inl ⟨by rfl, ?hy33_152⟩) (by with_reducible assumption) ?rest33_152
                  case hy33_152 => (intro V_ hSw; (try dsimp only at hSw); go_simp; (try with_reducible rfl))
                  case' rest33_152 => skip
                  try simp only [Act.put, List.setIfInBounds_toArray, List.set_cons_zero, List.set_cons_succ]
                  refine wpAnyH_take (i := 34) (oi := ⟨some 67, _, _, _, _, some (30, false)⟩) (v := ?v34_153) rfl (by kernel_rfl) (by kernel_rfl) (by kernel_rfl) (fun _ _ _ h => h) (Or.inl ⟨by rfl, ?hy34_153⟩) (by with_reducible assumption) ?rest34_153
                  case hy34_153 => (intro V_ hSw; (try dsimp only at hSw); go_simp; (try with_reducible rfl))
                  case' rest34_153 => skip
                  try simp only [Act.put, List.setIfInBounds_toArray, List.set_cons_zero, List.set_cons_succ]
                  refine wpAnyH_take (i := 35) (oi := ⟨some 68, _, _, _, _, some (30, false)⟩) (v := ?v35_154) rfl (by kernel_rfl) (by kernel_rfl) (by kernel_rfl) (fun _ _ _ h => h) (Or.inl ⟨by rfl, ?hy35_154⟩) (by with_reducible assumption) ?rest35_154
                  case hy35_154 => (intro V_ hSw; (try dsimp only at hSw); go_simp; (try with_reducible rfl))
                  case' rest35_154 => skip
                  try simp only [Act.put, List.setIfInBounds_toArray, List.set_cons_zero, List.set_cons_succ]
                  refine wpAnyH_take (i := 36) (oi := ⟨some 69, _, _, _, _, some (30, false)⟩) (v := ?v36_155) rfl (by kernel_rfl) (by kernel_rfl) (by kernel_rfl) (fun _ _ _ h => h) (Or.inl ⟨by rfl, ?hy36_155⟩) (by with_reducible assumption) ?rest36_155
                  case hy36_155 => (intro V_ hSw; (try dsimp only at hSw); go_simp; (try with_reducible rfl))
                  case' rest36_155 => skip
                  try simp only [Act.put, List.setIfInBounds_toArray, List.set_cons_zero, List.set_cons_succ]
                  refine wpAnyH_take (i := 37) (oi := ⟨some 70, _, _, _, _, some (30, false)⟩) (v := ?v37_156) rfl (by kernel_rfl) (by kernel_rfl) (by kernel_rfl) (fun _ _ _ h => h) (Or.inl ⟨by rfl, ?hy37_156⟩) (by with_reducible assumption) ?rest37_156
                  case hy37_156 => (intro V_ hSw; (try dsimp only at hSw); go_simp; (try with_reducible rfl))
                  case' rest37_156 => skip
                  try simp only [Act.put, List.setIfInBounds_toArray, List.set_cons_zero, List.set_cons_succ]
                  refine wpAnyH_take (i := 38) (oi := ⟨some 71, _, _, _, _, some (27, true)⟩) (v := ?v38_157) rfl (by kernel_rfl) (by kernel_rfl) (by kernel_rfl) (fun _ _ _ h => h) (Or.inl ⟨by rfl, ?hy38_157⟩) (by with_reducible assumption) ?rest38_157
                  case hy38_157 => (intro V_ hSw; (try dsimp only at hSw); go_simp; (try with_reducible rfl))
                  case' rest38_157 => skip
                  try simp only [Act.put, List.setIfInBounds_toArray, List.set_cons_zero, List.set_cons_succ]
                  refine wpAnyH_take (i := 39) (oi := ⟨some 72, _, _, _, _, none⟩) (v := ?v39_158) rfl (by kernel_rfl) (by kernel_rfl) (by kernel_rfl) (fun _ _ _ h => h) (Or.inl ⟨by rfl, ?hy39_158⟩) (by with_reducible assumption) ?rest39_158
                  case hy39_158 => (intro V_ hSw; (try dsimp only at hSw); go_simp; (try with_reducible rfl))
                  case' rest39_158 => skip
                  try simp only [Act.put, List.setIfInBounds_toArray, List.set_cons_zero, List.set_cons_succ]
                  refine wpAnyH_done (by kernel_rfl) ?_ _
                  refine NoPanic.normal ?_
                  clear hHeld
                  go_wp2_with fail
                  go_roundg (64 - i)
                  case measure => have h1 := HK.out; have h2 := HH.out.2; omega
                  case rel => exact ⟨i + 1, t', m, congrArg (Value.int .i64) (by first | exact HWI.out | exact HWI2.out | rfl | omega), ⟨by have h1 := HK.out; have h2 := HH.out.2; omega⟩, ⟨by have q := HEX.out; rw [HAS.out, if_neg (by decide)] at q; have h1 := HI.out.1; exact ⟨by omega, q.1.trans HI.out.2.1, q.2.2.trans HI.out.2.2⟩⟩, HT, HX, HM⟩
                exact AllReadyH.nil
              exact AllReadyH.nil
            case neg =>
              have e1 : (o != d.f3) = true := bne_iff_ne.mpr ho2
              have e2 : (o == d.f3) = false := beq_eq_false_iff_ne.mpr ho2
              have HAS := Aside0.mk (show asks s o (⟨d.f1, (d.f2.f0, d.f2.f1), d.f3⟩ : Rd S24) = true from by unfold asks; rw [show ((⟨d.f1, (d.f2.f0, d.f2.f1), d.f3⟩ : Rd S24)).s = d.f1 from rfl, show ((⟨d.f1, (d.f2.f0, d.f2.f1), d.f3⟩ : Rd S24)).o = d.f3 from rfl, hbm, e0, bne_iff_ne.mpr (fun q => ho2 q.symm)]; rfl)
              clear hbm ho ho2
              go_upto_region 10 with fail
              refine wp_region_noPanic ?_
              refine wp_region_held_drew (S := (fun V => (V.cell? (ad2.add (i * 6)) = some (.int .i64 d.f0) ∧ V.cell? ⟨(ad2.add (i * 6)).block, (ad2.add (i * 6)).off + 1, none⟩ = some (.string d.f1.f0) ∧ V.cell? ⟨(ad2.add (i * 6)).block, (ad2.add (i * 6)).off + 2, none⟩ = some (.string d.f1.f1) ∧ V.cell? ⟨(ad2.add (i * 6)).block, (ad2.add (i * 6)).off + 3, none⟩ = some (.int .i64 d.f2.f0) ∧ V.cell? ⟨(ad2.add (i * 6)).block, (ad2.add (i * 6)).off + 4, none⟩ = some (.int .i64 d.f2.f1) ∧ V.cell? ⟨(ad2.add (i * 6)).block, (ad2.add (i * 6)).off + 5, none⟩ = some (.int .i64 d.f3)) ∧ V.cell? ⟨n, 0, none⟩ = some (.string s.f0) ∧ V.cell? ⟨n, 1, none⟩ = some (.string s.f1))) (by kernel_rfl) ⟨HCL.out _ (below_step HW2.out (HT.out.step (below_drew1 (Below.refl _ _))).below), (blk_cell (td_kept HX.out (below_drew1 (Below.refl _ _))) 0).trans rfl, (blk_cell (td_kept HX.out (below_drew1 (Below.refl _ _))) 1).trans rfl⟩ (fun hHeld => ?_)
              generalize hwd : World.drew _ = wd at hHeld ⊢
              have hb : Below wr.heap.size wr wd := by rw [← hwd]; exact below_drew1 (Below.refl _ _)
              clear hwd
              have HX_ := Aside0.mk (td_kept HX.out hb)
              clear HX
              have HX := Aside0.mk HX_.out
              clear HX_
              have HT_ := Aside0.mk (HT.out.step hb)
              clear HT
              have HT := Aside0.mk HT_.out
              clear HT_
              have HM_ := Aside0.mk (td_kept HM.out hb)
              clear HM
              have HM := Aside0.mk HM_.out
              clear HM_
              clear hb
              refine wpAnyH_take (i := 0) (oi := ⟨some 33, _, _, _, _, none⟩) (v := ?v0_159) rfl (by kernel_rfl) (by kernel_rfl) (by kernel_rfl) (fun _ _ _ h => h) (Or.inl ⟨by rfl, ?hy0_159⟩) (by with_reducible assumption) ?rest0_159
              case hy0_159 => (intro V_ hSw; (try dsimp only at hSw); go_simp; (try with_reducible rfl))
              case' rest0_159 => skip
              try simp only [Act.put, List.setIfInBounds_toArray, List.set_cons_zero, List.set_cons_succ]
              refine wpAnyH_take (i := 1) (oi := ⟨some 34, _, _, _, _, none⟩) (v := ?v1_160) rfl (by kernel_rfl) (by kernel_rfl) (by kernel_rfl) (fun _ _ _ h => h) (Or.inl ⟨by rfl, ?hy1_160⟩) (by with_reducible assumption) ?rest1_160
              case hy1_160 => (intro V_ hSw; (try dsimp only at hSw); go_simp; (try with_reducible rfl))
              case' rest1_160 => skip
              try simp only [Act.put, List.setIfInBounds_toArray, List.set_cons_zero, List.set_cons_succ]
              refine wpAnyH_take (i := 2) (oi := ⟨some 35, _, _, _, _, none⟩) (v := ?v2_161) rfl (by kernel_rfl) (by kernel_rfl) (by kernel_rfl) (fun _ _ _ h => h) (Or.inl ⟨by rfl, ?hy2_161⟩) (by with_reducible assumption) ?rest2_161
              case hy2_161 => (intro V_ hSw; (try dsimp only at hSw); go_simp; (try with_reducible rfl))
              case' rest2_161 => skip
              try simp only [Act.put, List.setIfInBounds_toArray, List.set_cons_zero, List.set_cons_succ]
              refine wpAnyH_take (i := 3) (oi := ⟨some 36, _, _, _, _, none⟩) (v := ?v3_162) rfl (by kernel_rfl) (by kernel_rfl) (by kernel_rfl) (fun _ _ _ h => h) (Or.inl ⟨by rfl, ?hy3_162⟩) (by with_reducible assumption) ?rest3_162
              case hy3_162 => (intro V_ hSw; (try dsimp only at hSw); go_simp; (try with_reducible rfl))
              case' rest3_162 => skip
              try simp only [Act.put, List.setIfInBounds_toArray, List.set_cons_zero, List.set_cons_succ]
              refine wpAnyH_take (i := 4) (oi := ⟨some 37, _, _, _, _, none⟩) (v := ?v4_163) rfl (by kernel_rfl) (by kernel_rfl) (by kernel_rfl) (fun _ _ _ h => h) (Or.inl ⟨by rfl, ?hy4_163⟩) (by with_reducible assumption) ?rest4_163
              case hy4_163 => (intro V_ hSw; (try dsimp only at hSw); go_simp; (try with_reducible rfl))
              case' rest4_163 => skip
              try simp only [Act.put, List.setIfInBounds_toArray, List.set_cons_zero, List.set_cons_succ]
              refine wpAnyH_take (i := 5) (oi := ⟨some 38, _, _, _, _, none⟩) (v := ?v5_164) rfl (by kernel_rfl) (by kernel_rfl) (by kernel_rfl) (fun _ _ _ h => h) (Or.inl ⟨by rfl, ?hy5_164⟩) (by with_reducible assumption) ?rest5_164
              case hy5_164 => (intro V_ hSw; (try dsimp only at hSw); go_simp; (try with_reducible rfl))
              case' rest5_164 => skip
              try simp only [Act.put, List.setIfInBounds_toArray, List.set_cons_zero, List.set_cons_succ]
              refine wpAnyH_take (i := 6) (oi := ⟨some 39, _, _, _, _, none⟩) (v := ?v6_165) rfl (by kernel_rfl) (by kernel_rfl) (by kernel_rfl) (fun _ _ _ h => h) (Or.inl ⟨by rfl, ?hy6_165⟩) (by with_reducible assumption) ?rest6_165
              case hy6_165 => (intro V_ hSw; (try dsimp only at hSw); go_simp; (try with_reducible rfl))
              case' rest6_165 => skip
              try simp only [Act.put, List.setIfInBounds_toArray, List.set_cons_zero, List.set_cons_succ]
              refine wpAnyH_take (i := 7) (oi := ⟨some 40, _, _, _, _, none⟩) (v := ?v7_166) rfl (by kernel_rfl) (by kernel_rfl) (by kernel_rfl) (fun _ _ _ h => h) (Or.inl ⟨by rfl, ?hy7_166⟩) (by with_reducible assumption) ?rest7_166
              case hy7_166 => (intro V_ hSw; (try dsimp only at hSw); go_simp; (try with_reducible rfl))
              case' rest7_166 => skip
              try simp only [Act.put, List.setIfInBounds_toArray, List.set_cons_zero, List.set_cons_succ]
              refine wpAnyH_take (i := 8) (oi := ⟨some 41, _, _, _, _, none⟩) (v := ?v8_167) rfl (by kernel_rfl) (by kernel_rfl) (by kernel_rfl) (fun _ _ _ h => h) (Or.inl ⟨by rfl, ?hy8_167⟩) (by with_reducible assumption) ?rest8_167
              case hy8_167 => (intro V_ hSw; (try dsimp only at hSw); go_simp; (try with_reducible rfl))
              case' rest8_167 => skip
              try simp only [Act.put, List.setIfInBounds_toArray, List.set_cons_zero, List.set_cons_succ]
              refine wpAnyH_take (i := 9) (oi := ⟨some 42, _, _, _, _, none⟩) (v := ?v9_168) rfl (by kernel_rfl) (by kernel_rfl) (by kernel_rfl) (fun _ _ _ h => h) (Or.inl ⟨by rfl, ?hy9_168⟩) (by with_reducible assumption) ?rest9_168
              case hy9_168 => (intro V_ hSw; (try dsimp only at hSw); go_simp; (try with_reducible rfl))
              case' rest9_168 => skip
              try simp only [Act.put, List.setIfInBounds_toArray, List.set_cons_zero, List.set_cons_succ]
              refine wpAnyH_take (i := 10) (oi := ⟨some 43, _, _, _, _, none⟩) (v := ?v10_169) rfl (by kernel_rfl) (by kernel_rfl) (by kernel_rfl) (fun _ _ _ h => h) (Or.inl ⟨by rfl, ?hy10_169⟩) (by with_reducible assumption) ?rest10_169
              case hy10_169 => (intro V_ hSw; (try dsimp only at hSw); go_simp; (try with_reducible rfl))
              case' rest10_169 => skip
              try simp only [Act.put, List.setIfInBounds_toArray, List.set_cons_zero, List.set_cons_succ]
              refine wpAnyH_take (i := 11) (oi := ⟨some 44, _, _, _, _, none⟩) (v := ?v11_170) rfl (by kernel_rfl) (by kernel_rfl) (by kernel_rfl) (fun _ _ _ h => h) (Or.inl ⟨by rfl, ?hy11_170⟩) (by with_reducible assumption) ?rest11_170
              case hy11_170 => (intro V_ hSw; (try dsimp only at hSw); go_simp; (try with_reducible rfl))
              case' rest11_170 => skip
              try simp only [Act.put, List.setIfInBounds_toArray, List.set_cons_zero, List.set_cons_succ]
              refine wpAnyH_take (i := 12) (oi := ⟨some 45, _, _, _, _, none⟩) (v := ?v12_171) rfl (by kernel_rfl) (by kernel_rfl) (by kernel_rfl) (fun _ _ _ h => h) (Or.inl ⟨by rfl, ?hy12_171⟩) (by with_reducible assumption) ?rest12_171
              case hy12_171 => (intro V_ hSw; (try dsimp only at hSw); go_simp; (try with_reducible rfl))
              case' rest12_171 => skip
              try simp only [Act.put, List.setIfInBounds_toArray, List.set_cons_zero, List.set_cons_succ]
              refine wpAnyH_take (i := 13) (oi := ⟨some 46, _, _, _, _, none⟩) (v := ?v13_172) rfl (by kernel_rfl) (by kernel_rfl) (by kernel_rfl) (fun _ _ _ h => h) (Or.inl ⟨by rfl, ?hy13_172⟩) (by with_reducible assumption) ?rest13_172
              case hy13_172 => (intro V_ hSw; (try dsimp only at hSw); go_simp; (try with_reducible rfl))
              case' rest13_172 => skip
              try simp only [Act.put, List.setIfInBounds_toArray, List.set_cons_zero, List.set_cons_succ]
              refine wpAnyH_take (i := 14) (oi := ⟨some 47, _, _, _, _, none⟩) (v := ?v14_173) rfl (by kernel_rfl) (by kernel_rfl) (by kernel_rfl) (fun _ _ _ h => h) (Or.inl ⟨by rfl, ?hy14_173⟩) (by with_reducible assumption) ?rest14_173
              case hy14_173 => (intro V_ hSw; (try dsimp only at hSw); go_simp; (try with_reducible rfl))
              case' rest14_173 => skip
              try simp only [Act.put, List.setIfInBounds_toArray, List.set_cons_zero, List.set_cons_succ]
              refine wpAnyH_take (i := 15) (oi := ⟨some 48, _, _, _, _, none⟩) (v := ?v15_174) rfl (by kernel_rfl) (by kernel_rfl) (by kernel_rfl) (fun _ _ _ h => h) (Or.inl ⟨by rfl, ?hy15_174⟩) (by with_reducible assumption) ?rest15_174
              case hy15_174 => (intro V_ hSw; (try dsimp only at hSw); go_simp; (try with_reducible rfl))
              case' rest15_174 => skip
              try simp only [Act.put, List.setIfInBounds_toArray, List.set_cons_zero, List.set_cons_succ]
              refine wpAnyH_ready (rs := [16]) (by kernel_rfl) (by simp) ?_
              refine AllReadyH.cons (o := ⟨some 49, _, _, _, _, none⟩) rfl (fun K hK => ?_) ?_
              · go_simp
                refine (td_add wn wd g t d.f1 (d.f2.f0, d.f2.f1) d.f3 HT.out (by have h1 := HI.out.1; have h2 := HH.out.2; omega)).mono ?_
                rintro e w7 ⟨rfl, hT, hN⟩
                have HX_ := Aside0.mk (hN.blk HX.out HNG.out (by decide))
                clear HX
                have HX := Aside0.mk HX_.out
                clear HX_
                have HM_ := Aside0.mk (hN.blk HM.out HMG.out (by decide))
                clear HM
                have HM := Aside0.mk HM_.out
                clear HM_
                clear HT
                have HT := Aside0.mk hT
                clear hT hN
                rw [HERR.out]
                have hq := HT.out
                rw [HERR.out, if_pos rfl, HT'.out] at hq
                clear HT
                have HT := Aside0.mk hq
                clear hq
                refine hK.out _ _ ⟨HCL.out _ (below_step HW2.out HT.out.below), (blk_cell HX.out 0).trans rfl, (blk_cell HX.out 1).trans rfl⟩ (fun hHeld => ?_)
                clear hK K
                try simp only [Act.put, List.setIfInBounds_toArray, List.set_cons_zero, List.set_cons_succ]
                refine wpAnyH_take (i := 17) (oi := ⟨some 50, _, _, _, _, none⟩) (v := ?v17_175) rfl (by kernel_rfl) (by kernel_rfl) (by kernel_rfl) (fun _ _ _ h => h) (Or.inl ⟨by rfl, ?hy17_175⟩) (by with_reducible assumption) ?rest17_175
                case hy17_175 => (intro V_ hSw; (try dsimp only at hSw); go_simp; (try with_reducible rfl))
                case' rest17_175 => skip
                try simp only [Act.put, List.setIfInBounds_toArray, List.set_cons_zero, List.set_cons_succ]
                refine wpAnyH_take (i := 18) (oi := ⟨some 51, _, _, _, _, none⟩) (v := ?v18_176) rfl (by kernel_rfl) (by kernel_rfl) (by kernel_rfl) (fun _ _ _ h => h) (Or.inl ⟨by rfl, ?hy18_176⟩) (by with_reducible assumption) ?rest18_176
                case hy18_176 => (intro V_ hSw; (try dsimp only at hSw); go_simp; (try with_reducible rfl))
                case' rest18_176 => skip
                try simp only [Act.put, List.setIfInBounds_toArray, List.set_cons_zero, List.set_cons_succ]
                refine wpAnyH_take (i := 19) (oi := ⟨some 52, _, _, _, _, some (18, true)⟩) (v := ?v19_177) rfl (by kernel_rfl) (by kernel_rfl) (by kernel_rfl) (fun _ _ _ h => h) (Or.inl ⟨by rfl, ?hy19_177⟩) (by with_reducible assumption) ?rest19_177
                case hy19_177 => (intro V_ hSw; (try dsimp only at hSw); go_simp; (try with_reducible rfl))
                case' rest19_177 => skip
                try simp only [Act.put, List.setIfInBounds_toArray, List.set_cons_zero, List.set_cons_succ]
                refine wpAnyH_take (i := 20) (oi := ⟨some 53, _, _, _, _, some (18, true)⟩) (v := ?v20_178) rfl (by kernel_rfl) (by kernel_rfl) (by kernel_rfl) (fun _ _ _ h => h) (Or.inl ⟨by rfl, ?hy20_178⟩) (by with_reducible assumption) ?rest20_178
                case hy20_178 => (intro V_ hSw; (try dsimp only at hSw); go_simp; (try with_reducible rfl))
                case' rest20_178 => skip
                try simp only [Act.put, List.setIfInBounds_toArray, List.set_cons_zero, List.set_cons_succ]
                refine wpAnyH_take (i := 21) (oi := ⟨some 54, _, _, _, _, some (18, true)⟩) (v := ?v21_179) rfl (by kernel_rfl) (by kernel_rfl) (by kernel_rfl) (fun _ _ _ h => h) (Or.inl ⟨by rfl, ?hy21_179⟩) (by with_reducible assumption) ?rest21_179
                case hy21_179 => (intro V_ hSw; (try dsimp only at hSw); go_simp; (try with_reducible rfl))
                case' rest21_179 => skip
                try simp only [Act.put, List.setIfInBounds_toArray, List.set_cons_zero, List.set_cons_succ]
                refine wpAnyH_take (i := 22) (oi := ⟨some 55, _, _, _, _, some (18, true)⟩) (v := ?v22_180) rfl (by kernel_rfl) (by kernel_rfl) (by kernel_rfl) (fun _ _ _ h => h) (Or.inl ⟨by rfl, ?hy22_180⟩) (by with_reducible assumption) ?rest22_180
                case hy22_180 => (intro V_ hSw; (try dsimp only at hSw); go_simp; (try with_reducible rfl))
                case' rest22_180 => skip
                try simp only [Act.put, List.setIfInBounds_toArray, List.set_cons_zero, List.set_cons_succ]
                refine wpAnyH_take (i := 23) (oi := ⟨some 56, _, _, _, _, some (18, true)⟩) (v := ?v23_181) rfl (by kernel_rfl) (by kernel_rfl) (by kernel_rfl) (fun _ _ _ h => h) (Or.inl ⟨by rfl, ?hy23_181⟩) (by with_reducible assumption) ?rest23_181
                case hy23_181 => (intro V_ hSw; (try dsimp only at hSw); go_simp; (try with_reducible rfl))
                case' rest23_181 => skip
                try simp only [Act.put, List.setIfInBounds_toArray, List.set_cons_zero, List.set_cons_succ]
                refine wpAnyH_take (i := 24) (oi := ⟨some 57, _, _, _, _, some (18, true)⟩) (v := ?v24_182) rfl (by kernel_rfl) (by kernel_rfl) (by kernel_rfl) (fun _ _ _ h => h) (Or.inl ⟨by rfl, ?hy24_182⟩) (by with_reducible assumption) ?rest24_182
                case hy24_182 => (intro V_ hSw; (try dsimp only at hSw); go_simp; (try with_reducible rfl))
                case' rest24_182 => skip
                try simp only [Act.put, List.setIfInBounds_toArray, List.set_cons_zero, List.set_cons_succ]
                refine wpAnyH_ready (rs := [25]) (by kernel_rfl) (by simp) ?_
                refine AllReadyH.cons (o := ⟨some 58, _, _, _, _, some (18, true)⟩) rfl (fun K hK => ?_) ?_
                · go_simp
                  refine (spans_Meets.calls d.f1 s _).mono ?_
                  rintro e w8 ⟨rfl, hb⟩
                  have HX_ := Aside0.mk (td_kept HX.out hb)
                  clear HX
                  have HX := Aside0.mk HX_.out
                  clear HX_
                  have HM_ := Aside0.mk (td_kept HM.out hb)
                  clear HM
                  have HM := Aside0.mk HM_.out
                  clear HM_
                  have HT_ := Aside0.mk (HT.out.step hb)
                  clear HT
                  have HT := Aside0.mk HT_.out
                  clear HT_
                  clear hb
                  rw [HMT.out]
                  refine hK.out _ _ ⟨HCL.out _ (below_step HW2.out HT.out.below), (blk_cell HX.out 0).trans rfl, (blk_cell HX.out 1).trans rfl⟩ (fun hHeld => ?_)
                  clear hK K
                  try simp only [Act.put, List.setIfInBounds_toArray, List.set_cons_zero, List.set_cons_succ]
                  refine wpAnyH_take (i := 26) (oi := ⟨some 59, _, _, _, _, none⟩) (v := ?v26_183) rfl (by kernel_rfl) (by kernel_rfl) (by kernel_rfl) (fun _ _ _ h => h) (Or.inl ⟨by rfl, ?hy26_183⟩) (by with_reducible assumption) ?rest26_183
                  case hy26_183 => (intro V_ hSw; (try dsimp only at hSw); go_simp; (try with_reducible rfl))
                  case' rest26_183 => skip
                  try simp only [Act.put, List.setIfInBounds_toArray, List.set_cons_zero, List.set_cons_succ]
                  refine wpAnyH_take (i := 27) (oi := ⟨some 60, _, _, _, _, none⟩) (v := ?v27_184) rfl (by kernel_rfl) (by kernel_rfl) (by kernel_rfl) (fun _ _ _ h => h) (Or.inl ⟨by rfl, ?hy27_184⟩) (by with_reducible assumption) ?rest27_184
                  case hy27_184 => (intro V_ hSw; (try dsimp only at hSw); go_simp; (try with_reducible rfl))
                  case' rest27_184 => skip
                  try simp only [Act.put, List.setIfInBounds_toArray, List.set_cons_zero, List.set_cons_succ]
                  refine wpAnyH_take (i := 28) (oi := ⟨some 61, _, _, _, _, some (27, true)⟩) (v := ?v28_185) rfl (by kernel_rfl) (by kernel_rfl) (by kernel_rfl) (fun _ _ _ h => h) (Or.inl ⟨by rfl, ?hy28_185⟩) (by with_reducible assumption) ?rest28_185
                  case hy28_185 => (intro V_ hSw; (try dsimp only at hSw); go_simp; (try with_reducible rfl))
                  case' rest28_185 => skip
                  try simp only [Act.put, List.setIfInBounds_toArray, List.set_cons_zero, List.set_cons_succ]
                  refine wpAnyH_take (i := 29) (oi := ⟨some 62, _, _, _, _, some (27, true)⟩) (v := ?v29_186) rfl (by kernel_rfl) (by kernel_rfl) (by kernel_rfl) (fun _ _ _ h => h) (Or.inl ⟨by rfl, ?hy29_186⟩) (by with_reducible assumption) ?rest29_186
                  case hy29_186 => (intro V_ hSw; (try dsimp only at hSw); go_simp; (try with_reducible rfl))
                  case' rest29_186 => skip
                  try simp only [Act.put, List.setIfInBounds_toArray, List.set_cons_zero, List.set_cons_succ]
                  refine wpAnyH_take (i := 30) (oi := ⟨some 63, _, _, _, _, some (27, true)⟩) (v := ?v30_187) rfl (by kernel_rfl) (by kernel_rfl) (by kernel_rfl) (fun _ _ _ h => h) (Or.inl ⟨by rfl, ?hy30_187⟩) (by with_reducible assumption) ?rest30_187
                  case hy30_187 => (intro V_ hSw; (try dsimp only at hSw); go_simp; (try with_reducible rfl))
                  case' rest30_187 => skip
                  try simp only [Act.put, List.setIfInBounds_toArray, List.set_cons_zero, List.set_cons_succ]
                  refine wpAnyH_take (i := 31) (oi := ⟨some 64, _, _, _, _, some (30, false)⟩) (v := ?v31_188) rfl (by kernel_rfl) (by kernel_rfl) (by kernel_rfl) (fun _ _ _ h => h) (Or.inl ⟨by rfl, ?hy31_188⟩) (by with_reducible assumption) ?rest31_188
                  case hy31_188 => (intro V_ hSw; (try dsimp only at hSw); go_simp; (try with_reducible rfl))
                  case' rest31_188 => skip
                  try simp only [Act.put, List.setIfInBounds_toArray, List.set_cons_zero, List.set_cons_succ]
                  refine wpAnyH_take (i := 32) (oi := ⟨some 65, _, _, _, _, some (30, false)⟩) (v := ?v32_189) rfl (by kernel_rfl) (by kernel_rfl) (by kernel_rfl) (fun _ _ _ h => h) (Or.inl ⟨by rfl, ?hy32_189⟩) (by with_reducible assumption) ?rest32_189
                  case hy32_189 => (intro V_ hSw; (try dsimp only at hSw); go_simp; (try with_reducible rfl))
                  case' rest32_189 => skip
                  try simp only [Act.put, List.setIfInBounds_toArray, List.set_cons_zero, List.set_cons_succ]
                  refine wpAnyH_take (i := 33) (oi := ⟨some 66, _, _, _, _, some (30, false)⟩) (v := ?v33_190) rfl (by kernel_rfl) (by kernel_rfl) (by kernel_rfl) (fun _ _ _ h => h) (Or.inl ⟨by rfl, ?hy33_190⟩) (by with_reducible assumption) ?rest33_190
                  case hy33_190 => (intro V_ hSw; (try dsimp only at hSw); go_simp; (try with_reducible rfl))
                  case' rest33_190 => skip
                  try simp only [Act.put, List.setIfInBounds_toArray, List.set_cons_zero, List.set_cons_succ]
                  refine wpAnyH_take (i := 34) (oi := ⟨some 67, _, _, _, _, some (30, false)⟩) (v := ?v34_191) rfl (by kernel_rfl) (by kernel_rfl) (by kernel_rfl) (fun _ _ _ h => h) (Or.inl ⟨by rfl, ?hy34_191⟩) (by with_reducible assumption) ?rest34_191
                  case hy34_191 => (intro V_ hSw; (try dsimp only at hSw); go_simp; (try with_reducible rfl))
                  case' rest34_191 => skip
                  try simp only [Act.put, List.setIfInBounds_toArray, List.set_cons_zero, List.set_cons_succ]
                  refine wpAnyH_take (i := 35) (oi := ⟨some 68, _, _, _, _, some (30, false)⟩) (v := ?v35_192) rfl (by kernel_rfl) (by kernel_rfl) (by kernel_rfl) (fun _ _ _ h => h) (Or.inl ⟨by rfl, ?hy35_192⟩) (by with_reducible assumption) ?rest35_192
                  case hy35_192 => (intro V_ hSw; (try dsimp only at hSw); go_simp; (try with_reducible rfl))
                  case' rest35_192 => skip
                  try simp only [Act.put, List.setIfInBounds_toArray, List.set_cons_zero, List.set_cons_succ]
                  refine wpAnyH_take (i := 36) (oi := ⟨some 69, _, _, _, _, some (30, false)⟩) (v := ?v36_193) rfl (by kernel_rfl) (by kernel_rfl) (by kernel_rfl) (fun _ _ _ h => h) (Or.inl ⟨by rfl, ?hy36_193⟩) (by with_reducible assumption) ?rest36_193
                  case hy36_193 => (intro V_ hSw; (try dsimp only at hSw); go_simp; (try with_reducible rfl))
                  case' rest36_193 => skip
                  try simp only [Act.put, List.setIfInBounds_toArray, List.set_cons_zero, List.set_cons_succ]
                  refine wpAnyH_take (i := 37) (oi := ⟨some 70, _, _, _, _, some (30, false)⟩) (v := ?v37_194) rfl (by kernel_rfl) (by kernel_rfl) (by kernel_rfl) (fun _ _ _ h => h) (Or.inl ⟨by rfl, ?hy37_194⟩) (by with_reducible assumption) ?rest37_194
                  case hy37_194 => (intro V_ hSw; (try dsimp only at hSw); go_simp; (try with_reducible rfl))
                  case' rest37_194 => skip
                  try simp only [Act.put, List.setIfInBounds_toArray, List.set_cons_zero, List.set_cons_succ]
                  refine wpAnyH_take (i := 38) (oi := ⟨some 71, _, _, _, _, some (27, true)⟩) (v := ?v38_195) rfl (by kernel_rfl) (by kernel_rfl) (by kernel_rfl) (fun _ _ _ h => h) (Or.inl ⟨by rfl, ?hy38_195⟩) (by with_reducible assumption) ?rest38_195
                  case hy38_195 => (intro V_ hSw; (try dsimp only at hSw); go_simp; (try with_reducible rfl))
                  case' rest38_195 => skip
                  try simp only [Act.put, List.setIfInBounds_toArray, List.set_cons_zero, List.set_cons_succ]
                  refine wpAnyH_take (i := 39) (oi := ⟨some 72, _, _, _, _, none⟩) (v := ?v39_196) rfl (by kernel_rfl) (by kernel_rfl) (by kernel_rfl) (fun _ _ _ h => h) (Or.inl ⟨by rfl, ?hy39_196⟩) (by with_reducible assumption) ?rest39_196
                  case hy39_196 => (intro V_ hSw; (try dsimp only at hSw); go_simp; (try with_reducible rfl))
                  case' rest39_196 => skip
                  try simp only [Act.put, List.setIfInBounds_toArray, List.set_cons_zero, List.set_cons_succ]
                  refine wpAnyH_done (by kernel_rfl) ?_ _
                  refine NoPanic.normal ?_
                  clear hHeld
                  go_upto_region 11 with fail
                  refine wp_region_noPanic ?_
                  refine wp_region_held_drew (S := (fun V => V.cell? (ad2.add (i * 6)) = some (.int .i64 d.f0) ∧ V.cell? ⟨(ad2.add (i * 6)).block, (ad2.add (i * 6)).off + 3, none⟩ = some (.int .i64 d.f2.f0) ∧ V.cell? ⟨(ad2.add (i * 6)).block, (ad2.add (i * 6)).off + 4, none⟩ = some (.int .i64 d.f2.f1))) (by kernel_rfl) ⟨(HCL.out _ (below_step HW2.out (HT.out.step (below_drew1 (Below.refl _ _))).below)).1, (HCL.out _ (below_step HW2.out (HT.out.step (below_drew1 (Below.refl _ _))).below)).2.2.2.1, (HCL.out _ (below_step HW2.out (HT.out.step (below_drew1 (Below.refl _ _))).below)).2.2.2.2.1⟩ (fun hHeld => ?_)
                  generalize hwd : World.drew _ = wd at hHeld ⊢
                  have hb : Below w8.heap.size w8 wd := by rw [← hwd]; exact below_drew1 (Below.refl _ _)
                  clear hwd
                  have HX_ := Aside0.mk (td_kept HX.out hb)
                  clear HX
                  have HX := Aside0.mk HX_.out
                  clear HX_
                  have HT_ := Aside0.mk (HT.out.step hb)
                  clear HT
                  have HT := Aside0.mk HT_.out
                  clear HT_
                  have HM_ := Aside0.mk (td_kept HM.out hb)
                  clear HM
                  have HM := Aside0.mk HM_.out
                  clear HM_
                  clear hb
                  refine wpAnyH_take (i := 1) (oi := ⟨some 74, _, _, _, _, none⟩) (v := ?v1_197) rfl (by kernel_rfl) (by kernel_rfl) (by kernel_rfl) (fun _ _ _ h => h) (Or.inl ⟨by rfl, ?hy1_197⟩) (by with_reducible assumption) ?rest1_197
                  case hy1_197 => (intro V_ hSw; (try dsimp only at hSw); go_simp; (try with_reducible rfl))
                  case' rest1_197 => skip
                  try simp only [Act.put, List.setIfInBounds_toArray, List.set_cons_zero, List.set_cons_succ]
                  refine wpAnyH_take (i := 2) (oi := ⟨some 75, _, _, _, _, none⟩) (v := ?v2_198) rfl (by kernel_rfl) (by kernel_rfl) (by kernel_rfl) (fun _ _ _ h => h) (Or.inl ⟨by rfl, ?hy2_198⟩) (by with_reducible assumption) ?rest2_198
                  case hy2_198 => (intro V_ hSw; (try dsimp only at hSw); go_simp; (try with_reducible rfl))
                  case' rest2_198 => skip
                  try simp only [Act.put, List.setIfInBounds_toArray, List.set_cons_zero, List.set_cons_succ]
                  refine wpAnyH_take (i := 3) (oi := ⟨some 76, _, _, _, _, none⟩) (v := ?v3_199) rfl (by kernel_rfl) (by kernel_rfl) (by kernel_rfl) (fun _ _ _ h => h) (Or.inl ⟨by rfl, ?hy3_199⟩) (by with_reducible assumption) ?rest3_199
                  case hy3_199 => (intro V_ hSw; (try dsimp only at hSw); go_simp; (try with_reducible rfl))
                  case' rest3_199 => skip
                  try simp only [Act.put, List.setIfInBounds_toArray, List.set_cons_zero, List.set_cons_succ]
                  refine wpAnyH_take (i := 4) (oi := ⟨some 77, _, _, _, _, none⟩) (v := ?v4_200) rfl (by kernel_rfl) (by kernel_rfl) (by kernel_rfl) (fun _ _ _ h => h) (Or.inl ⟨by rfl, ?hy4_200⟩) (by with_reducible assumption) ?rest4_200
                  case hy4_200 => (intro V_ hSw; (try dsimp only at hSw); go_simp; (try with_reducible rfl))
                  case' rest4_200 => skip
                  try simp only [Act.put, List.setIfInBounds_toArray, List.set_cons_zero, List.set_cons_succ]
                  refine wpAnyH_take (i := 5) (oi := ⟨some 78, _, _, _, _, none⟩) (v := ?v5_201) rfl (by kernel_rfl) (by kernel_rfl) (by kernel_rfl) (fun _ _ _ h => h) (Or.inl ⟨by rfl, ?hy5_201⟩) (by with_reducible assumption) ?rest5_201
                  case hy5_201 => (intro V_ hSw; (try dsimp only at hSw); go_simp; (try with_reducible rfl))
                  case' rest5_201 => skip
                  try simp only [Act.put, List.setIfInBounds_toArray, List.set_cons_zero, List.set_cons_succ]
                  refine wpAnyH_ready (rs := [0]) (by kernel_rfl) (by simp) ?_
                  refine AllReadyH.cons (o := ⟨some 73, _, _, _, _, none⟩) rfl (fun K hK => ?_) ?_
                  · have o0 : wd.cell? ⟨gm, 0, none⟩ = some (.int .i64 m.1) := (blk_cell HM.out 0).trans rfl
                    have o1 : wd.cell? ⟨gm, 1, none⟩ = some (.int .i64 m.2) := (blk_cell HM.out 1).trans rfl
                    go_simp
                    clear o0 o1
                    refine hK.out _ _ hHeld (fun hHeld => ?_)
                    clear hK K
                    try simp only [Act.put, List.setIfInBounds_toArray, List.set_cons_zero, List.set_cons_succ]
                    refine wpAnyH_ready (rs := [6]) (by kernel_rfl) (by simp) ?_
                    refine AllReadyH.cons (o := ⟨some 79, _, _, _, _, none⟩) rfl (fun K hK => ?_) ?_
                    · refine Kd.R_lit_step k31 (w0 := wd) wd.heap.size 31 ?hg (N := 79) ?hd (xs := ([⟨(m).1, (m).2⟩, ⟨((d.f2.f0, d.f2.f1)).1, ((d.f2.f0, d.f2.f1)).2⟩] : List S31)) (inner := [.int .i64 (m).1, .int .i64 (m).2, .int .i64 ((d.f2.f0, d.f2.f1)).1, .int .i64 ((d.f2.f0, d.f2.f1)).2]) (ok := fun _ => True) (okp := fun _ => True) ?hr ?hp (fun _ hk => hk) trivial (Below.refl _ _) (Nat.le_refl _) (by simp) ?_
                      case hg => rfl
                      case hd => rfl
                      case hr => first | (go_simp; done) | (go_simp; rfl)
                      case hp => exact two_rep _ _ _ _ _
                      intro vy wl hoy hb hgy hny
                      obtain ⟨Ay, cy, ey⟩ := Kd.R_slice hoy
                      subst ey
                      have HCY := Aside0.mk (Kd.R_reads' hoy).2.2
                      have HCLN := Aside0.mk (Kd.R_reads' hoy).2.1
                      clear hoy hgy hny
                      have HX_ := Aside0.mk (td_kept HX.out hb)
                      clear HX
                      have HX := Aside0.mk HX_.out
                      clear HX_
                      have HT_ := Aside0.mk (HT.out.step hb)
                      clear HT
                      have HT := Aside0.mk HT_.out
                      clear HT_
                      have HM_ := Aside0.mk (td_kept HM.out hb)
                      clear HM
                      have HM := Aside0.mk HM_.out
                      clear HM_
                      clear hb
                      refine hK.out _ _ ⟨(HCL.out _ (below_step HW2.out HT.out.below)).1, (HCL.out _ (below_step HW2.out HT.out.below)).2.2.2.1, (HCL.out _ (below_step HW2.out HT.out.below)).2.2.2.2.1⟩ (fun hHeld => ?_)
                      clear hK K
                      try simp only [Act.put, List.setIfInBounds_toArray, List.set_cons_zero, List.set_cons_succ]
                      refine wpAnyH_ready (rs := [7]) (by kernel_rfl) (by simp) ?_
                      refine AllReadyH.cons (o := ⟨some 80, _, _, _, _, none⟩) rfl (fun K hK => ?_) ?_
                      · go_simp
                        refine (td_max2 m (d.f2.f0, d.f2.f1) _ _ _ HCY.out HCLN.out).mono ?_
                        rintro e w9 ⟨rfl, hb⟩
                        clear HCY HCLN
                        have HX_ := Aside0.mk (td_kept HX.out hb)
                        clear HX
                        have HX := Aside0.mk HX_.out
                        clear HX_
                        have HT_ := Aside0.mk (HT.out.step hb)
                        clear HT
                        have HT := Aside0.mk HT_.out
                        clear HT_
                        have HM_ := Aside0.mk (td_kept HM.out hb)
                        clear HM
                        have HM := Aside0.mk HM_.out
                        clear HM_
                        clear hb
                        refine hK.out _ _ ⟨(HCL.out _ (below_step HW2.out HT.out.below)).1, (HCL.out _ (below_step HW2.out HT.out.below)).2.2.2.1, (HCL.out _ (below_step HW2.out HT.out.below)).2.2.2.2.1⟩ (fun hHeld => ?_)
                        clear hK K
                        try simp only [Act.put, List.setIfInBounds_toArray, List.set_cons_zero, List.set_cons_succ]
                        refine wpAnyH_ready (rs := [8]) (by kernel_rfl) (by simp) ?_
                        refine AllReadyH.cons (o := ⟨none, _, _, _, _, none⟩) rfl (fun K hK => ?_) ?_
                        · have o0 : w9.cell? ⟨gm, 0, none⟩ = some (.int .i64 m.1) := (blk_cell HM.out 0).trans rfl
                          have o1 : w9.cell? ⟨gm, 1, none⟩ = some (.int .i64 m.2) := (blk_cell HM.out 1).trans rfl
                          have f0 := blk_frozen HM.out 0
                          have f1 := blk_frozen HM.out 1
                          go_simp
                          clear o0 o1 f0 f1
                          obtain ⟨m', hm'⟩ : ∃ m', tmx m (d.f2.f0, d.f2.f1) = m' := ⟨_, rfl⟩
                          rw [hm']
                          have HMM := Aside0.mk hm'
                          clear hm'
                          have hm1 := blk_put (cs' := #[.int .i64 m'.1, .int .i64 m.2]) HM.out 0 (.int .i64 m'.1) rfl
                          have hm2 := blk_put (cs' := #[.int .i64 m'.1, .int .i64 m'.2]) hm1 1 (.int .i64 m'.2) rfl
                          obtain ⟨q1, q2, A_, c_, q3, q4⟩ := HT.out
                          have HT_ := Aside0.mk ((((TdA.mk q1 q2 q3 q4).far HM.out (i := 0) (by decide) HMN.out (fun e => HMG.out (congrArg some e.symm)) (.int .i64 m'.1)).far hm1 (i := 1) (by decide) HMN.out (fun e => HMG.out (congrArg some e.symm)) (.int .i64 m'.2)).at_)
                          have HX_ := Aside0.mk (blk_far (blk_far HX.out (p := ⟨gm, 0, none⟩) HMX.out (.int .i64 m'.1)) (p := ⟨gm, 1, none⟩) HMX.out (.int .i64 m'.2))
                          have HM_ := Aside0.mk hm2
                          clear HT HX HM hm1 hm2 q1 q2 q3 q4
                          have HT := Aside0.mk HT_.out
                          have HX := Aside0.mk HX_.out
                          have HM := Aside0.mk HM_.out
                          clear HT_ HX_ HM_
                          refine hK.out _ _ ⟨(HCL.out _ (below_step HW2.out HT.out.below)).1, (HCL.out _ (below_step HW2.out HT.out.below)).2.2.2.1, (HCL.out _ (below_step HW2.out HT.out.below)).2.2.2.2.1⟩ (fun hHeld => ?_)
                          clear hK K
                          try simp only [Act.put, List.setIfInBounds_toArray, List.set_cons_zero, List.set_cons_succ]
                          refine wpAnyH_done (by kernel_rfl) ?_ _
                          refine NoPanic.normal ?_
                          clear hHeld
                          go_wp2_with fail
                          go_roundg (64 - i)
                          case measure => have h1 := HK.out; have h2 := HH.out.2; omega
                          case rel => exact ⟨i + 1, t', m', congrArg (Value.int .i64) (by first | exact HWI.out | exact HWI2.out | rfl | omega), ⟨by have h1 := HK.out; have h2 := HH.out.2; omega⟩, ⟨by have q := HEX.out; rw [HAS.out, if_pos rfl, HI.out.2.2, HMM.out] at q; have h1 := HI.out.1; exact ⟨by omega, q.1.trans HI.out.2.1, q.2.2⟩⟩, HT, HX, HM⟩
                        exact AllReadyH.nil
                      exact AllReadyH.nil
                    exact AllReadyH.nil
                  exact AllReadyH.nil
                exact AllReadyH.nil
              exact AllReadyH.nil
    case neg =>
      have x0 : wr.cell? ⟨n, 0, none⟩ = some (.string s.f0) := (blk_cell HX.out 0).trans rfl
      have x1 : wr.cell? ⟨n, 1, none⟩ = some (.string s.f1) := (blk_cell HX.out 1).trans rfl
      by_cases h1 : i < l0.length
      case' pos =>
        have h2 : ¬ i < 64 := fun h => hgo ⟨h1, h⟩
        have d1 : decide ((i : Int) < (l0.length : Int)) = true := decide_eq_true (by omega)
        have d1n : decide (i < l0.length) = true := decide_eq_true (by omega)
        have d2 : decide ((i : Int) < 64) = false := decide_eq_false (by omega)
        have d2n : decide (i < 64) = false := decide_eq_false (by omega)
        clear h1 h2 hgo
      case' neg =>
        have d1 : decide ((i : Int) < (l0.length : Int)) = false := decide_eq_false (by omega)
        have d1n : decide (i < l0.length) = false := decide_eq_false (by omega)
        clear h1 hgo
      all_goals
        go_wp2_with fail
        refine (td_max wn wr g t s o HT.out).mono ?_
        rintro e w7 ⟨rfl, hb⟩
        clear x0 x1
        have HX_ := Aside0.mk (td_kept HX.out hb)
        clear HX
        have HX := Aside0.mk HX_.out
        clear HX_
        have HM_ := Aside0.mk (td_kept HM.out hb)
        clear HM
        have HM := Aside0.mk HM_.out
        clear HM_
        have HT_ := Aside0.mk (HT.out.step hb)
        clear HT
        have HT := Aside0.mk HT_.out
        clear HT_
        clear hb
        by_cases hq : qErr s o = 0
        case neg =>
          rw [maxF_bad hq]
          have e1 : (qErr s o != 0) = true := bne_iff_ne.mpr hq
          have e2 : (qErr s o == 0) = false := beq_eq_false_iff_ne.mpr hq
          clear hq
          go_upto_region 13 with fail
          generalize hw8 : World.alloc w7 _ = w8
          have HF := Aside0.mk (show w8.heap[w7.heap.size]? = some (.cells #[.int .i64 0, .int .i64 0] 31 (0, 0)) from by rw [← hw8]; exact blk_new _ _)
          have HB8 := Aside0.mk (show Below w.heap.size w w8 from by rw [← hw8]; exact below_alloc (below_step HW2.out HT.out.below) _)
          clear hw8
          have r0 : w8.cell? ⟨w7.heap.size, 0, none⟩ = some (.int .i64 0) := (blk_cell HF.out 0).trans rfl
          have r1 : w8.cell? ⟨w7.heap.size, 1, none⟩ = some (.int .i64 0) := (blk_cell HF.out 1).trans rfl
          go_wp2_with fail
          go_ret
          exact ⟨rfl, HB8.out⟩
        case pos =>
          rw [maxF_ok hq]
          clear hq
          rw [HI.out.2.2]
          go_upto_region 13 with fail
          generalize hw8 : World.alloc w7 _ = w8
          have HF := Aside0.mk (show w8.heap[w7.heap.size]? = some (.cells #[.int .i64 m.1, .int .i64 m.2] 31 (0, 0)) from by rw [← hw8]; exact blk_new _ _)
          have hb : Below w7.heap.size w7 w8 := by rw [← hw8]; exact td_alloc _ _
          clear hw8
          have HM_ := Aside0.mk (td_kept HM.out hb)
          clear HM
          have HM := Aside0.mk HM_.out
          clear HM_
          have HT_ := Aside0.mk (HT.out.step hb)
          clear HT
          have HT := Aside0.mk HT_.out
          clear HT_
          clear hb
          have r0 : w8.cell? ⟨w7.heap.size, 0, none⟩ = some (.int .i64 m.1) := (blk_cell HF.out 0).trans rfl
          have r1 : w8.cell? ⟨w7.heap.size, 1, none⟩ = some (.int .i64 m.2) := (blk_cell HF.out 1).trans rfl
          have o0 : w8.cell? ⟨gm, 0, none⟩ = some (.int .i64 m.1) := (blk_cell HM.out 0).trans rfl
          have o1 : w8.cell? ⟨gm, 1, none⟩ = some (.int .i64 m.2) := (blk_cell HM.out 1).trans rfl
          go_wp2_with fail
          refine (td_low wn _ g t HT.out).mono ?_
          rintro e w9 ⟨rfl, hb⟩
          rw [HI.out.2.1]
          clear r0 r1 o0 o1
          have HT_ := Aside0.mk (HT.out.step hb)
          clear HT
          have HT := Aside0.mk HT_.out
          clear HT_
          clear hb
          go_wp2_with fail
          refine (scriptoriumlaw17_at.calls 4 0 4 0 _ rfl).mono ?_
          rintro e wa ⟨rfl, hb⟩
          have HZ := Aside0.mk (below_step HW2.out (HT.out.step hb).below)
          clear hb
          go_wp2_with fail
          go_ret
          exact ⟨rfl, HZ.out⟩
end Go.Proofs.Ytaccfbpfennjkaa.PTideDoes

