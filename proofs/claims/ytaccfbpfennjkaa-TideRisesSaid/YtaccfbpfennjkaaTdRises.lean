/- TideRises: Max and the low water never fall: the walk (typed by hand). -/
import Derived.Test.YtaccfbpfennjkaaTdHolds
namespace Go.Proofs.Ytaccfbpfennjkaa.PTideDoes
open Go.RowKit Go.Proofs.YtaccfbpfennjkaaW.PrintWords Go.Proofs.YtaccfbpfennjkaaW.PrintLast Go.Proofs.YtaccfbpfennjkaaW.PrintMore
attribute [local go_sem] max2_int min2_int max_two min_two max_three min_three max_four min_four   -- for this text's walks alone
set_option linter.unusedVariables false
set_option linter.unusedSimpArgs false
set_option maxHeartbeats 16000000 in
set_option maxRecDepth 100000 in
theorem kr_walk (l0 : List S33) (s : S24) (o : Int) (A0 : Option Addr) (c0 : Nat) (w : World) (hwf : (l0.length ≤ maxLen ∧ l0.length * 64 ≤ 140737488351232 ∧ ∀ y0 ∈ l0, ((Lit.int .i64 y0.f0).wf = true ∧ (y0.f1.f0.size ≤ 140737488351232 ∧ y0.f1.f1.size ≤ 140737488351232) ∧ ((Lit.int .i64 y0.f2.f0).wf = true ∧ (Lit.int .i64 y0.f2.f1).wf = true) ∧ (Lit.int .i64 y0.f3).wf = true))) (hr0 : Kd.C k33 w A0 l0.length l0) :
    Calls Try.prog 5 #[.slice A0 l0.length c0, .agg #[.string s.f0, .string s.f1], .int .i64 o] w fun e w' => e = .returned (.bool true) ∧ Below w.heap.size w w' := by
  have HR0 := Aside0.mk hr0
  have HWF := Aside0.mk (fun d (hd : d ∈ l0) => bring4_f d.f0 (wf_i64 (hwf.2.2 d hd).1).1 (by have := (wf_i64 (hwf.2.2 d hd).1).2; omega))
  have HLM := Aside0.mk hwf.2.1
  clear hr0 hwf
  go_enter Try.func5, Try.ntmps5
  go_upto_region 1 with fail
  generalize hw1 : World.alloc w _ = w1
  have HB := Aside0.mk (show Below w.heap.size w w1 from by rw [← hw1]; exact td_alloc w _)
  have HX := Aside0.mk (show w1.heap[w.heap.size]? = some (.cells #[.string s.f0, .string s.f1] 24 (0, 0)) from by rw [← hw1]; exact blk_new w _)
  clear hw1
  obtain ⟨n, hn⟩ : ∃ n, w.heap.size = n := ⟨_, rfl⟩
  have HNW := Aside0.mk hn
  rw [hn] at HX ⊢
  clear hn
  go_wp2_with fail
  refine (td_works _).mono ?_
  rintro e w2 ⟨rfl, hb⟩
  have HX_ := Aside0.mk (td_kept HX.out hb)
  clear HX
  have HX := Aside0.mk HX_.out
  clear HX_
  have HB_ := Aside0.mk (below_step HB.out hb)
  clear HB
  have HB := Aside0.mk HB_.out
  clear HB_
  clear hb
  go_wp2_with fail
  refine (scriptoriumlaw17_at.calls 3 1 3 1 _ rfl).mono ?_
  rintro e wn ⟨rfl, hb⟩
  have HX_ := Aside0.mk (td_kept HX.out hb)
  clear HX
  have HX := Aside0.mk HX_.out
  clear HX_
  have HB_ := Aside0.mk (below_step HB.out hb)
  clear HB
  have HB := Aside0.mk HB_.out
  clear HB_
  clear hb
  go_wp2_with fail
  refine (td_new (3, 1) _ (by kernel_rfl)).mono ?_
  rintro e w3 ⟨g, rfl, hT⟩
  have HW2 := Aside0.mk HB.out
  have HX_ := Aside0.mk (td_kept HX.out hT.below)
  have HNG := Aside0.mk (show some n ≠ some g from by intro e; injection e with e; have h1 := blk_lt HX.out; have h2 := hT.own; omega)
  clear HX HB
  have HX := Aside0.mk HX_.out
  have HT := Aside0.mk (show TdAt wn w3 g (⟨(3, 1), []⟩ : Td S24) from hT)
  clear HX_ hT
  obtain ⟨t, ht⟩ : ∃ t, (⟨(3, 1), []⟩ : Td S24) = t := ⟨_, rfl⟩
  have HI := Aside0.mk (show t.ok ∧ t.l.length ≤ 64 from by rw [← ht]; exact ⟨fun r hr => absurd hr (by simp), Nat.zero_le _⟩)
  rw [ht] at HT
  clear ht
  have x0 : w3.cell? ⟨n, 0, none⟩ = some (.string s.f0) := (blk_cell HX.out 0).trans rfl
  have x1 : w3.cell? ⟨n, 1, none⟩ = some (.string s.f1) := (blk_cell HX.out 1).trans rfl
  go_wp2_with fail
  refine (td_max wn w3 g t s o HT.out).mono ?_
  rintro e w4 ⟨rfl, hb⟩
  clear x0 x1
  have HX_ := Aside0.mk (td_kept HX.out hb)
  clear HX
  have HX := Aside0.mk HX_.out
  clear HX_
  have HT_ := Aside0.mk (HT.out.step hb)
  clear HT
  have HT := Aside0.mk HT_.out
  clear HT_
  clear hb
  have HE := Aside0.mk (show (t.maxF s o).2 = qErr s o from by by_cases q : qErr s o = 0; rw [maxF_ok q, q]; rw [maxF_bad q])
  rw [HE.out]
  obtain ⟨m, hm⟩ : ∃ m, (t.maxF s o).1 = m := ⟨_, rfl⟩
  have HMM := Aside0.mk hm
  rw [hm]
  clear hm HE
  go_upto_region 7 with fail
  generalize hw : World.alloc w4 _ = w5
  have HM := Aside0.mk (show w5.heap[w4.heap.size]? = some (.cells #[.int .i64 m.1, .int .i64 m.2] 31 (0, 0)) from by rw [← hw]; exact blk_new _ _)
  have hb : Below w4.heap.size w4 w5 := by rw [← hw]; exact td_alloc _ _
  have HMG := Aside0.mk (show some w4.heap.size ≠ some g from by intro e; injection e with e; have h1 := HT.out.lt; omega)
  have HMX := Aside0.mk (show n ≠ w4.heap.size from Nat.ne_of_lt (blk_lt HX.out))
  have HMN := Aside0.mk (show wn.heap.size ≤ w4.heap.size from HT.out.below.size)
  clear hw
  have HX_ := Aside0.mk (td_kept HX.out hb)
  clear HX
  have HX := Aside0.mk HX_.out
  clear HX_
  have HT_ := Aside0.mk (HT.out.step hb)
  clear HT
  have HT := Aside0.mk HT_.out
  clear HT_
  clear hb
  generalize w4.heap.size = gm at HM HMG HMX HMN ⊢
  go_wp2_with fail
  refine (td_low wn w5 g t HT.out).mono ?_
  rintro e w6 ⟨rfl, hb⟩
  have HX_ := Aside0.mk (td_kept HX.out hb)
  clear HX
  have HX := Aside0.mk HX_.out
  clear HX_
  have HM_ := Aside0.mk (td_kept HM.out hb)
  clear HM
  have HM := Aside0.mk HM_.out
  clear HM_
  have HT_ := Aside0.mk (HT.out.step hb)
  clear HT
  have HT := Aside0.mk HT_.out
  clear HT_
  clear hb
  go_upto_region 8 with fail
  generalize hw : World.alloc w6 _ = w7
  have HL := Aside0.mk (show w7.heap[w6.heap.size]? = some (.cells #[.int .i64 t.low.1, .int .i64 t.low.2] 31 (0, 0)) from by rw [← hw]; exact blk_new _ _)
  have hb : Below w6.heap.size w6 w7 := by rw [← hw]; exact td_alloc _ _
  have HLG := Aside0.mk (show some w6.heap.size ≠ some g from by intro e; injection e with e; have h1 := HT.out.lt; omega)
  have HLX := Aside0.mk (show n ≠ w6.heap.size from Nat.ne_of_lt (blk_lt HX.out))
  have HLN := Aside0.mk (show wn.heap.size ≤ w6.heap.size from HT.out.below.size)
  clear hw
  have HLM2 := Aside0.mk (show gm ≠ w6.heap.size from Nat.ne_of_lt (blk_lt HM.out))
  have HX_ := Aside0.mk (td_kept HX.out hb)
  clear HX
  have HX := Aside0.mk HX_.out
  clear HX_
  have HM_ := Aside0.mk (td_kept HM.out hb)
  clear HM
  have HM := Aside0.mk HM_.out
  clear HM_
  have HT_ := Aside0.mk (HT.out.step hb)
  clear HT
  have HT := Aside0.mk HT_.out
  clear HT_
  clear hb
  generalize w6.heap.size = gl at HL HLG HLX HLN HLM2 ⊢
  go_wp2_with fail
  go_loopg [12] 101 (fun kq v wr => ∃ (i : Nat) (t : Td S24) (m : Int × Int), v = .int .i64 (i : Int) ∧ Aside0 (i + kq = 101) ∧ Aside0 (t.ok ∧ t.l.length ≤ 64) ∧ Aside0 ((t.maxF s o).1 = m) ∧ Aside0 (TdAt wn wr g t) ∧ Aside0 (wr.heap[n]? = some (.cells #[.string s.f0, .string s.f1] 24 (0, 0))) ∧ Aside0 (wr.heap[gm]? = some (.cells #[.int .i64 m.1, .int .i64 m.2] 31 (0, 0))) ∧ Aside0 (wr.heap[gl]? = some (.cells #[.int .i64 t.low.1, .int .i64 t.low.2] 31 (0, 0))))
  case atStart => exact ⟨0, t, m, rfl, ⟨rfl⟩, HI, HMM, HT, HX, HM, HL⟩
  case round =>
    clear HI HT HX HM HL HMM
    obtain ⟨i, t, m, rfl, HK, HI, HMM, HT, HX, HM, HL⟩ := hrel
    by_cases hgo : i < l0.length ∧ i < 100
    case pos =>
      obtain ⟨h1, h2⟩ := hgo
      have d1 : decide ((i : Int) < (l0.length : Int)) = true := decide_eq_true (by omega)
      have d1n : decide (i < l0.length) = true := decide_eq_true (by omega)
      have d2 : decide ((i : Int) < 100) = true := decide_eq_true (by omega)
      have d2n : decide (i < 100) = true := decide_eq_true (by omega)
      obtain ⟨ad2, ea, d, hd, hld⟩ := ld_T33 HR0.out i h1
      cases ea
      have hmem : d ∈ l0 := by
        rw [← hd, List.getD_eq_getElem?_getD, List.getElem?_eq_getElem h1]
        exact List.getElem_mem h1
      have HBR := Aside0.mk (HWF.out d hmem)
      have HLD := Aside0.mk (hld wr (below_step HW2.out HT.out.below))
      have HH := Aside0.mk (And.intro h1 h2)
      have p0 := eq_true (show (0 : Int) ≤ (i : Int) by omega)
      have q0 := eq_true (show (i : Int) < (l0.length : Int) by omega)
      have q0n := eq_true h1
      have hwi : Go.RowKit.wrap64 ((i : Int) + 1) = ((i + 1 : Nat) : Int) := by
        unfold Go.RowKit.wrap64
        omega
      have HWI := Aside0.mk hwi
      have HWI2 := Aside0.mk ((i64_w ((i : Int) + 1)).trans hwi)
      clear hwi h1 h2 hd hld hmem
      go_wp2_with (refine wpList_load_at rfl 33 _ rfl _ (by rfl) _ _ HLD.out Try.underlying33 rfl (by kernel_rfl) ?_)
      refine (td_done wn wr g t d HT.out HI.out.2 HBR.out).mono ?_
      rintro e w7 ⟨rfl, hT, hN⟩
      have HX_ := Aside0.mk (hN.blk HX.out HNG.out (by decide))
      clear HX
      have HX := Aside0.mk HX_.out
      clear HX_
      have HM_ := Aside0.mk (hN.blk HM.out HMG.out (by decide))
      clear HM
      have HM := Aside0.mk HM_.out
      clear HM_
      have HL_ := Aside0.mk (hN.blk HL.out HLG.out (by decide))
      clear HL
      have HL := Aside0.mk HL_.out
      clear HL_
      clear HT
      have HT := Aside0.mk hT
      clear hT hN
      have HGR := Aside0.mk (done_grows t HI.out.1 d)
      have HI2 := Aside0.mk (And.intro (done_grows t HI.out.1 d).2 (done_len t HI.out.2 d))
      clear HLD
      obtain ⟨td, htd⟩ : ∃ td, doneF t d = td := ⟨_, rfl⟩
      rw [htd] at HT HI2 HGR ⊢
      clear htd
      have x0 : w7.cell? ⟨n, 0, none⟩ = some (.string s.f0) := (blk_cell HX.out 0).trans rfl
      have x1 : w7.cell? ⟨n, 1, none⟩ = some (.string s.f1) := (blk_cell HX.out 1).trans rfl
      go_wp2_with fail
      refine (td_max wn w7 g td.1 s o HT.out).mono ?_
      rintro e w8 ⟨rfl, hb⟩
      clear x0 x1
      have HX_ := Aside0.mk (td_kept HX.out hb)
      clear HX
      have HX := Aside0.mk HX_.out
      clear HX_
      have HM_ := Aside0.mk (td_kept HM.out hb)
      clear HM
      have HM := Aside0.mk HM_.out
      clear HM_
      have HL_ := Aside0.mk (td_kept HL.out hb)
      clear HL
      have HL := Aside0.mk HL_.out
      clear HL_
      have HT_ := Aside0.mk (HT.out.step hb)
      clear HT
      have HT := Aside0.mk HT_.out
      clear HT_
      clear hb
      have HE := Aside0.mk (show (td.1.maxF s o).2 = qErr s o from by by_cases q : qErr s o = 0; rw [maxF_ok q, q]; rw [maxF_bad q])
      rw [HE.out]
      obtain ⟨x, hx⟩ : ∃ x, (td.1.maxF s o).1 = x := ⟨_, rfl⟩
      have HXX := Aside0.mk hx
      rw [hx]
      clear hx HE
      have e3 : (qErr s o != qErr s o) = false := by simp
      have HL2 := Aside0.mk (show decide (tlt td.1.low t.low) = false from decide_eq_false HGR.out.1.low)
      by_cases hq : qErr s o = 0
      case neg =>
        have e1 : (qErr s o != 0) = true := bne_iff_ne.mpr hq
        have e2 : (qErr s o == 0) = false := beq_eq_false_iff_ne.mpr hq
        have HL1 := Aside0.mk (show decide (tlt x m) = false from by rw [← HXX.out, ← HMM.out, maxF_bad hq, maxF_bad hq]; rfl)
        clear hq
        go_upto_region 13 with fail
        generalize hw : World.alloc w8 _ = w9
        have HF := Aside0.mk (show w9.heap[w8.heap.size]? = some (.cells #[.int .i64 x.1, .int .i64 x.2] 31 (0, 0)) from by rw [← hw]; exact blk_new _ _)
        have hb : Below w8.heap.size w8 w9 := by rw [← hw]; exact td_alloc _ _
        clear hw
        have HX_ := Aside0.mk (td_kept HX.out hb)
        clear HX
        have HX := Aside0.mk HX_.out
        clear HX_
        have HM_ := Aside0.mk (td_kept HM.out hb)
        clear HM
        have HM := Aside0.mk HM_.out
        clear HM_
        have HL_ := Aside0.mk (td_kept HL.out hb)
        clear HL
        have HL := Aside0.mk HL_.out
        clear HL_
        have HT_ := Aside0.mk (HT.out.step hb)
        clear HT
        have HT := Aside0.mk HT_.out
        clear HT_
        clear hb
        generalize w8.heap.size = gf at HF ⊢
        refine wp_region_noPanic ?_
        refine wp_region_held_drew (S := (fun V => V.cell? ⟨gf, 0, none⟩ = some (.int .i64 x.1) ∧ V.cell? ⟨gf, 1, none⟩ = some (.int .i64 x.2) ∧ V.cell? ⟨gm, 0, none⟩ = some (.int .i64 m.1) ∧ V.cell? ⟨gm, 1, none⟩ = some (.int .i64 m.2) ∧ V.cell? ⟨gl, 0, none⟩ = some (.int .i64 t.low.1) ∧ V.cell? ⟨gl, 1, none⟩ = some (.int .i64 t.low.2))) (by kernel_rfl) ⟨(blk_cell (td_kept HF.out (below_drew1 (Below.refl _ _))) 0).trans rfl, (blk_cell (td_kept HF.out (below_drew1 (Below.refl _ _))) 1).trans rfl, (blk_cell (td_kept HM.out (below_drew1 (Below.refl _ _))) 0).trans rfl, (blk_cell (td_kept HM.out (below_drew1 (Below.refl _ _))) 1).trans rfl, (blk_cell (td_kept HL.out (below_drew1 (Below.refl _ _))) 0).trans rfl, (blk_cell (td_kept HL.out (below_drew1 (Below.refl _ _))) 1).trans rfl⟩ (fun hHeld => ?_)
        generalize hwd : World.drew _ = wd at hHeld ⊢
        have hb : Below w9.heap.size w9 wd := by rw [← hwd]; exact below_drew1 (Below.refl _ _)
        clear hwd
        have HF_ := Aside0.mk (td_kept HF.out hb)
        clear HF
        have HF := Aside0.mk HF_.out
        clear HF_
        have HM_ := Aside0.mk (td_kept HM.out hb)
        clear HM
        have HM := Aside0.mk HM_.out
        clear HM_
        have HL_ := Aside0.mk (td_kept HL.out hb)
        clear HL
        have HL := Aside0.mk HL_.out
        clear HL_
        have HT_ := Aside0.mk (HT.out.step hb)
        clear HT
        have HT := Aside0.mk HT_.out
        clear HT_
        have HX_ := Aside0.mk (td_kept HX.out hb)
        clear HX
        have HX := Aside0.mk HX_.out
        clear HX_
        clear hb
        refine wpAnyH_take (i := 0) (oi := ⟨some 56, _, _, _, _, none⟩) (v := ?v0_1) rfl (by kernel_rfl) (by kernel_rfl) (by kernel_rfl) (fun _ _ _ h => h) (Or.inl ⟨by rfl, ?hy0_1⟩) (by with_reducible assumption) ?rest0_1
        case hy0_1 => (intro V_ hSw; (try dsimp only at hSw); go_simp; (try with_reducible rfl))
        case' rest0_1 => skip
        try simp only [Act.put, List.setIfInBounds_toArray, List.set_cons_zero, List.set_cons_succ]
        refine wpAnyH_take (i := 1) (oi := ⟨some 57, _, _, _, _, none⟩) (v := ?v1_2) rfl (by kernel_rfl) (by kernel_rfl) (by kernel_rfl) (fun _ _ _ h => h) (Or.inl ⟨by rfl, ?hy1_2⟩) (by with_reducible assumption) ?rest1_2
        case hy1_2 => (intro V_ hSw; (try dsimp only at hSw); go_simp; (try with_reducible rfl))
        case' rest1_2 => skip
        try simp only [Act.put, List.setIfInBounds_toArray, List.set_cons_zero, List.set_cons_succ]
        refine wpAnyH_take (i := 2) (oi := ⟨some 58, _, _, _, _, none⟩) (v := ?v2_3) rfl (by kernel_rfl) (by kernel_rfl) (by kernel_rfl) (fun _ _ _ h => h) (Or.inl ⟨by rfl, ?hy2_3⟩) (by with_reducible assumption) ?rest2_3
        case hy2_3 => (intro V_ hSw; (try dsimp only at hSw); go_simp; (try with_reducible rfl))
        case' rest2_3 => skip
        try simp only [Act.put, List.setIfInBounds_toArray, List.set_cons_zero, List.set_cons_succ]
        refine wpAnyH_take (i := 3) (oi := ⟨some 59, _, _, _, _, none⟩) (v := ?v3_4) rfl (by kernel_rfl) (by kernel_rfl) (by kernel_rfl) (fun _ _ _ h => h) (Or.inl ⟨by rfl, ?hy3_4⟩) (by with_reducible assumption) ?rest3_4
        case hy3_4 => (intro V_ hSw; (try dsimp only at hSw); go_simp; (try with_reducible rfl))
        case' rest3_4 => skip
        try simp only [Act.put, List.setIfInBounds_toArray, List.set_cons_zero, List.set_cons_succ]
        refine wpAnyH_take (i := 4) (oi := ⟨some 60, _, _, _, _, some (3, false)⟩) (v := ?v4_5) rfl (by kernel_rfl) (by kernel_rfl) (by kernel_rfl) (fun _ _ _ h => h) (Or.inl ⟨by rfl, ?hy4_5⟩) (by with_reducible assumption) ?rest4_5
        case hy4_5 => (intro V_ hSw; (try dsimp only at hSw); go_simp; (try with_reducible rfl))
        case' rest4_5 => skip
        try simp only [Act.put, List.setIfInBounds_toArray, List.set_cons_zero, List.set_cons_succ]
        refine wpAnyH_take (i := 5) (oi := ⟨some 61, _, _, _, _, some (3, false)⟩) (v := ?v5_6) rfl (by kernel_rfl) (by kernel_rfl) (by kernel_rfl) (fun _ _ _ h => h) (Or.inl ⟨by rfl, ?hy5_6⟩) (by with_reducible assumption) ?rest5_6
        case hy5_6 => (intro V_ hSw; (try dsimp only at hSw); go_simp; (try with_reducible rfl))
        case' rest5_6 => skip
        try simp only [Act.put, List.setIfInBounds_toArray, List.set_cons_zero, List.set_cons_succ]
        refine wpAnyH_ready (rs := [6]) (by kernel_rfl) (by simp) ?_
        refine AllReadyH.cons (o := ⟨some 62, _, _, _, _, some (3, false)⟩) rfl (fun K hK => ?_) ?_
        · go_simp
          refine (td_less x m _).mono ?_
          rintro e wq1 ⟨rfl, hb⟩
          have HF_ := Aside0.mk (td_kept HF.out hb)
          clear HF
          have HF := Aside0.mk HF_.out
          clear HF_
          have HM_ := Aside0.mk (td_kept HM.out hb)
          clear HM
          have HM := Aside0.mk HM_.out
          clear HM_
          have HL_ := Aside0.mk (td_kept HL.out hb)
          clear HL
          have HL := Aside0.mk HL_.out
          clear HL_
          have HT_ := Aside0.mk (HT.out.step hb)
          clear HT
          have HT := Aside0.mk HT_.out
          clear HT_
          have HX_ := Aside0.mk (td_kept HX.out hb)
          clear HX
          have HX := Aside0.mk HX_.out
          clear HX_
          clear hb
          rw [HL1.out]
          refine hK.out _ _ ⟨(blk_cell (td_kept HF.out (Below.refl _ _)) 0).trans rfl, (blk_cell (td_kept HF.out (Below.refl _ _)) 1).trans rfl, (blk_cell (td_kept HM.out (Below.refl _ _)) 0).trans rfl, (blk_cell (td_kept HM.out (Below.refl _ _)) 1).trans rfl, (blk_cell (td_kept HL.out (Below.refl _ _)) 0).trans rfl, (blk_cell (td_kept HL.out (Below.refl _ _)) 1).trans rfl⟩ (fun hHeld => ?_)
          clear hK K
          try simp only [Act.put, List.setIfInBounds_toArray, List.set_cons_zero, List.set_cons_succ]
          refine wpAnyH_take (i := 7) (oi := ⟨some 63, _, _, _, _, none⟩) (v := ?v7_7) rfl (by kernel_rfl) (by kernel_rfl) (by kernel_rfl) (fun _ _ _ h => h) (Or.inl ⟨by rfl, ?hy7_7⟩) (by with_reducible assumption) ?rest7_7
          case hy7_7 => (intro V_ hSw; (try dsimp only at hSw); go_simp; (try with_reducible rfl))
          case' rest7_7 => skip
          try simp only [Act.put, List.setIfInBounds_toArray, List.set_cons_zero, List.set_cons_succ]
          refine wpAnyH_take (i := 8) (oi := ⟨some 64, _, _, _, _, none⟩) (v := ?v8_8) rfl (by kernel_rfl) (by kernel_rfl) (by kernel_rfl) (fun _ _ _ h => h) (Or.inl ⟨by rfl, ?hy8_8⟩) (by with_reducible assumption) ?rest8_8
          case hy8_8 => (intro V_ hSw; (try dsimp only at hSw); go_simp; (try with_reducible rfl))
          case' rest8_8 => skip
          try simp only [Act.put, List.setIfInBounds_toArray, List.set_cons_zero, List.set_cons_succ]
          refine wpAnyH_take (i := 9) (oi := ⟨some 65, _, _, _, _, some (8, false)⟩) (v := ?v9_9) rfl (by kernel_rfl) (by kernel_rfl) (by kernel_rfl) (fun _ _ _ h => h) (Or.inl ⟨by rfl, ?hy9_9⟩) (by with_reducible assumption) ?rest9_9
          case hy9_9 => (intro V_ hSw; (try dsimp only at hSw); go_simp; (try with_reducible rfl))
          case' rest9_9 => skip
          try simp only [Act.put, List.setIfInBounds_toArray, List.set_cons_zero, List.set_cons_succ]
          refine wpAnyH_take (i := 11) (oi := ⟨some 67, _, _, _, _, some (8, false)⟩) (v := ?v11_10) rfl (by kernel_rfl) (by kernel_rfl) (by kernel_rfl) (fun _ _ _ h => h) (Or.inl ⟨by rfl, ?hy11_10⟩) (by with_reducible assumption) ?rest11_10
          case hy11_10 => (intro V_ hSw; (try dsimp only at hSw); go_simp; (try with_reducible rfl))
          case' rest11_10 => skip
          try simp only [Act.put, List.setIfInBounds_toArray, List.set_cons_zero, List.set_cons_succ]
          refine wpAnyH_ready (rs := [10]) (by kernel_rfl) (by simp) ?_
          refine AllReadyH.cons (o := ⟨some 66, _, _, _, _, some (8, false)⟩) rfl (fun K hK => ?_) ?_
          · go_simp
            refine (td_low wn _ g td.1 HT.out).mono ?_
            rintro e wq2 ⟨rfl, hb⟩
            have HF_ := Aside0.mk (td_kept HF.out hb)
            clear HF
            have HF := Aside0.mk HF_.out
            clear HF_
            have HM_ := Aside0.mk (td_kept HM.out hb)
            clear HM
            have HM := Aside0.mk HM_.out
            clear HM_
            have HL_ := Aside0.mk (td_kept HL.out hb)
            clear HL
            have HL := Aside0.mk HL_.out
            clear HL_
            have HT_ := Aside0.mk (HT.out.step hb)
            clear HT
            have HT := Aside0.mk HT_.out
            clear HT_
            have HX_ := Aside0.mk (td_kept HX.out hb)
            clear HX
            have HX := Aside0.mk HX_.out
            clear HX_
            clear hb
            refine hK.out _ _ ⟨(blk_cell (td_kept HF.out (Below.refl _ _)) 0).trans rfl, (blk_cell (td_kept HF.out (Below.refl _ _)) 1).trans rfl, (blk_cell (td_kept HM.out (Below.refl _ _)) 0).trans rfl, (blk_cell (td_kept HM.out (Below.refl _ _)) 1).trans rfl, (blk_cell (td_kept HL.out (Below.refl _ _)) 0).trans rfl, (blk_cell (td_kept HL.out (Below.refl _ _)) 1).trans rfl⟩ (fun hHeld => ?_)
            clear hK K
            try simp only [Act.put, List.setIfInBounds_toArray, List.set_cons_zero, List.set_cons_succ]
            refine wpAnyH_ready (rs := [12]) (by kernel_rfl) (by simp) ?_
            refine AllReadyH.cons (o := ⟨some 68, _, _, _, _, some (8, false)⟩) rfl (fun K hK => ?_) ?_
            · go_simp
              refine (td_less td.1.low t.low _).mono ?_
              rintro e wq3 ⟨rfl, hb⟩
              have HF_ := Aside0.mk (td_kept HF.out hb)
              clear HF
              have HF := Aside0.mk HF_.out
              clear HF_
              have HM_ := Aside0.mk (td_kept HM.out hb)
              clear HM
              have HM := Aside0.mk HM_.out
              clear HM_
              have HL_ := Aside0.mk (td_kept HL.out hb)
              clear HL
              have HL := Aside0.mk HL_.out
              clear HL_
              have HT_ := Aside0.mk (HT.out.step hb)
              clear HT
              have HT := Aside0.mk HT_.out
              clear HT_
              have HX_ := Aside0.mk (td_kept HX.out hb)
              clear HX
              have HX := Aside0.mk HX_.out
              clear HX_
              clear hb
              rw [HL2.out]
              refine hK.out _ _ ⟨(blk_cell (td_kept HF.out (Below.refl _ _)) 0).trans rfl, (blk_cell (td_kept HF.out (Below.refl _ _)) 1).trans rfl, (blk_cell (td_kept HM.out (Below.refl _ _)) 0).trans rfl, (blk_cell (td_kept HM.out (Below.refl _ _)) 1).trans rfl, (blk_cell (td_kept HL.out (Below.refl _ _)) 0).trans rfl, (blk_cell (td_kept HL.out (Below.refl _ _)) 1).trans rfl⟩ (fun hHeld => ?_)
              clear hK K
              try simp only [Act.put, List.setIfInBounds_toArray, List.set_cons_zero, List.set_cons_succ]
              refine wpAnyH_take (i := 13) (oi := ⟨some 69, _, _, _, _, none⟩) (v := ?v13_11) rfl (by kernel_rfl) (by kernel_rfl) (by kernel_rfl) (fun _ _ _ h => h) (Or.inl ⟨by rfl, ?hy13_11⟩) (by with_reducible assumption) ?rest13_11
              case hy13_11 => (intro V_ hSw; (try dsimp only at hSw); go_simp; (try with_reducible rfl))
              case' rest13_11 => skip
              try simp only [Act.put, List.setIfInBounds_toArray, List.set_cons_zero, List.set_cons_succ]
              refine wpAnyH_take (i := 14) (oi := ⟨some 70, _, _, _, _, none⟩) (v := ?v14_12) rfl (by kernel_rfl) (by kernel_rfl) (by kernel_rfl) (fun _ _ _ h => h) (Or.inl ⟨by rfl, ?hy14_12⟩) (by with_reducible assumption) ?rest14_12
              case hy14_12 => (intro V_ hSw; (try dsimp only at hSw); go_simp; (try with_reducible rfl))
              case' rest14_12 => skip
              try simp only [Act.put, List.setIfInBounds_toArray, List.set_cons_zero, List.set_cons_succ]
              refine wpAnyH_take (i := 15) (oi := ⟨some 71, _, _, _, _, some (14, false)⟩) (v := ?v15_13) rfl (by kernel_rfl) (by kernel_rfl) (by kernel_rfl) (fun _ _ _ h => h) (Or.inl ⟨by rfl, ?hy15_13⟩) (by with_reducible assumption) ?rest15_13
              case hy15_13 => (intro V_ hSw; (try dsimp only at hSw); go_simp; (try with_reducible rfl))
              case' rest15_13 => skip
              try simp only [Act.put, List.setIfInBounds_toArray, List.set_cons_zero, List.set_cons_succ]
              refine wpAnyH_take (i := 16) (oi := ⟨some 72, _, _, _, _, some (14, false)⟩) (v := ?v16_14) rfl (by kernel_rfl) (by kernel_rfl) (by kernel_rfl) (fun _ _ _ h => h) (Or.inl ⟨by rfl, ?hy16_14⟩) (by with_reducible assumption) ?rest16_14
              case hy16_14 => (intro V_ hSw; (try dsimp only at hSw); go_simp; (try with_reducible rfl))
              case' rest16_14 => skip
              try simp only [Act.put, List.setIfInBounds_toArray, List.set_cons_zero, List.set_cons_succ]
              refine wpAnyH_take (i := 17) (oi := ⟨some 73, _, _, _, _, some (14, false)⟩) (v := ?v17_15) rfl (by kernel_rfl) (by kernel_rfl) (by kernel_rfl) (fun _ _ _ h => h) (Or.inl ⟨by rfl, ?hy17_15⟩) (by with_reducible assumption) ?rest17_15
              case hy17_15 => (intro V_ hSw; (try dsimp only at hSw); go_simp; (try with_reducible rfl))
              case' rest17_15 => skip
              try simp only [Act.put, List.setIfInBounds_toArray, List.set_cons_zero, List.set_cons_succ]
              refine wpAnyH_take (i := 18) (oi := ⟨some 74, _, _, _, _, some (17, true)⟩) rfl (by kernel_rfl) (by kernel_rfl) (by kernel_rfl) (fun _ _ _ h => h) (Or.inr ⟨by rfl, rfl⟩) (by with_reducible assumption) ?_
              try simp only [Act.put, List.setIfInBounds_toArray, List.set_cons_zero, List.set_cons_succ]
              refine wpAnyH_take (i := 19) (oi := ⟨some 75, _, _, _, _, some (17, true)⟩) rfl (by kernel_rfl) (by kernel_rfl) (by kernel_rfl) (fun _ _ _ h => h) (Or.inr ⟨by rfl, rfl⟩) (by with_reducible assumption) ?_
              try simp only [Act.put, List.setIfInBounds_toArray, List.set_cons_zero, List.set_cons_succ]
              refine wpAnyH_take (i := 20) (oi := ⟨some 76, _, _, _, _, some (17, true)⟩) rfl (by kernel_rfl) (by kernel_rfl) (by kernel_rfl) (fun _ _ _ h => h) (Or.inr ⟨by rfl, rfl⟩) (by with_reducible assumption) ?_
              try simp only [Act.put, List.setIfInBounds_toArray, List.set_cons_zero, List.set_cons_succ]
              refine wpAnyH_take (i := 21) (oi := ⟨some 77, _, _, _, _, some (17, true)⟩) rfl (by kernel_rfl) (by kernel_rfl) (by kernel_rfl) (fun _ _ _ h => h) (Or.inr ⟨by rfl, rfl⟩) (by with_reducible assumption) ?_
              try simp only [Act.put, List.setIfInBounds_toArray, List.set_cons_zero, List.set_cons_succ]
              refine wpAnyH_take (i := 22) (oi := ⟨some 78, _, _, _, _, some (14, false)⟩) (v := ?v22_20) rfl (by kernel_rfl) (by kernel_rfl) (by kernel_rfl) (fun _ _ _ h => h) (Or.inl ⟨by rfl, ?hy22_20⟩) (by with_reducible assumption) ?rest22_20
              case hy22_20 => (intro V_ hSw; (try dsimp only at hSw); go_simp; (try with_reducible rfl))
              case' rest22_20 => skip
              try simp only [Act.put, List.setIfInBounds_toArray, List.set_cons_zero, List.set_cons_succ]
              refine wpAnyH_take (i := 23) (oi := ⟨some 79, _, _, _, _, none⟩) (v := ?v23_21) rfl (by kernel_rfl) (by kernel_rfl) (by kernel_rfl) (fun _ _ _ h => h) (Or.inl ⟨by rfl, ?hy23_21⟩) (by with_reducible assumption) ?rest23_21
              case hy23_21 => (intro V_ hSw; (try dsimp only at hSw); go_simp; (try with_reducible rfl))
              case' rest23_21 => skip
              try simp only [Act.put, List.setIfInBounds_toArray, List.set_cons_zero, List.set_cons_succ]
              refine wpAnyH_done (by kernel_rfl) ?_ _
              refine NoPanic.normal ?_
              clear hHeld
              rename World => wz
              have f0 : wz.cell? ⟨gf, 0, none⟩ = some (.int .i64 x.1) := (blk_cell HF.out 0).trans rfl
              have f1 : wz.cell? ⟨gf, 1, none⟩ = some (.int .i64 x.2) := (blk_cell HF.out 1).trans rfl
              have o0 : wz.cell? ⟨gm, 0, none⟩ = some (.int .i64 m.1) := (blk_cell HM.out 0).trans rfl
              have o1 : wz.cell? ⟨gm, 1, none⟩ = some (.int .i64 m.2) := (blk_cell HM.out 1).trans rfl
              have z0 := blk_frozen HM.out 0
              have z1 := blk_frozen HM.out 1
              go_upto_region 16 with fail
              have hm1 := blk_put (cs' := #[.int .i64 x.1, .int .i64 m.2]) HM.out 0 (.int .i64 x.1) rfl
              have hm2 := blk_put (cs' := #[.int .i64 x.1, .int .i64 x.2]) hm1 1 (.int .i64 x.2) rfl
              obtain ⟨q1, q2, A_, c_, q3, q4⟩ := HT.out
              have HT_ := Aside0.mk ((((TdA.mk q1 q2 q3 q4).far HM.out (i := 0) (by decide) HMN.out (fun e => HMG.out (congrArg some e.symm)) (.int .i64 x.1)).far hm1 (i := 1) (by decide) HMN.out (fun e => HMG.out (congrArg some e.symm)) (.int .i64 x.2)).at_)
              have HX_ := Aside0.mk (blk_far (blk_far HX.out (p := ⟨gm, 0, none⟩) HMX.out (.int .i64 x.1)) (p := ⟨gm, 1, none⟩) HMX.out (.int .i64 x.2))
              have HL_ := Aside0.mk (blk_far (blk_far HL.out (p := ⟨gm, 0, none⟩) HLM2.out.symm (.int .i64 x.1)) (p := ⟨gm, 1, none⟩) HLM2.out.symm (.int .i64 x.2))
              have HM_ := Aside0.mk hm2
              clear HT HX HM HL HF hm1 hm2 q1 q2 q3 q4 f0 f1 o0 o1 z0 z1
              generalize hws : World.setCell _ _ _ = ws at HT_ HX_ HL_ HM_ ⊢
              clear hws
              have HT := Aside0.mk HT_.out
              have HX := Aside0.mk HX_.out
              have HL := Aside0.mk HL_.out
              have HM := Aside0.mk HM_.out
              clear HT_ HX_ HL_ HM_
              go_wp2_with fail
              refine (td_low wn ws g td.1 HT.out).mono ?_
              rintro e wt ⟨rfl, hb⟩
              have HX_ := Aside0.mk (td_kept HX.out hb)
              clear HX
              have HX := Aside0.mk HX_.out
              clear HX_
              have HM_ := Aside0.mk (td_kept HM.out hb)
              clear HM
              have HM := Aside0.mk HM_.out
              clear HM_
              have HL_ := Aside0.mk (td_kept HL.out hb)
              clear HL
              have HL := Aside0.mk HL_.out
              clear HL_
              have HT_ := Aside0.mk (HT.out.step hb)
              clear HT
              have HT := Aside0.mk HT_.out
              clear HT_
              clear hb
              have o0 : wt.cell? ⟨gl, 0, none⟩ = some (.int .i64 t.low.1) := (blk_cell HL.out 0).trans rfl
              have o1 : wt.cell? ⟨gl, 1, none⟩ = some (.int .i64 t.low.2) := (blk_cell HL.out 1).trans rfl
              have z0 := blk_frozen HL.out 0
              have z1 := blk_frozen HL.out 1
              go_wp2_with fail
              have hm1 := blk_put (cs' := #[.int .i64 td.1.low.1, .int .i64 t.low.2]) HL.out 0 (.int .i64 td.1.low.1) rfl
              have hm2 := blk_put (cs' := #[.int .i64 td.1.low.1, .int .i64 td.1.low.2]) hm1 1 (.int .i64 td.1.low.2) rfl
              obtain ⟨q1, q2, A_, c_, q3, q4⟩ := HT.out
              have HT_ := Aside0.mk ((((TdA.mk q1 q2 q3 q4).far HL.out (i := 0) (by decide) HLN.out (fun e => HLG.out (congrArg some e.symm)) (.int .i64 td.1.low.1)).far hm1 (i := 1) (by decide) HLN.out (fun e => HLG.out (congrArg some e.symm)) (.int .i64 td.1.low.2)).at_)
              have HX_ := Aside0.mk (blk_far (blk_far HX.out (p := ⟨gl, 0, none⟩) HLX.out (.int .i64 td.1.low.1)) (p := ⟨gl, 1, none⟩) HLX.out (.int .i64 td.1.low.2))
              have HM_ := Aside0.mk (blk_far (blk_far HM.out (p := ⟨gl, 0, none⟩) HLM2.out (.int .i64 td.1.low.1)) (p := ⟨gl, 1, none⟩) HLM2.out (.int .i64 td.1.low.2))
              have HL_ := Aside0.mk hm2
              clear HT HX HM HL hm1 hm2 q1 q2 q3 q4 o0 o1 z0 z1
              go_roundg (100 - i)
              case measure => have h1 := HK.out; have h2 := HH.out.2; omega
              case rel => exact ⟨i + 1, td.1, x, congrArg (Value.int .i64) (by first | exact HWI.out | exact HWI2.out | rfl | omega), ⟨by have h1 := HK.out; have h2 := HH.out.2; omega⟩, HI2, HXX, HT_, HX_, HM_, HL_⟩
            exact AllReadyH.nil
          exact AllReadyH.nil
        exact AllReadyH.nil
      case pos =>
        have e2 : (qErr s o == 0) = true := beq_iff_eq.mpr hq
        have HL1 := Aside0.mk (show decide (tlt x m) = false from decide_eq_false (by rw [← HXX.out, ← HMM.out, maxF_ok hq, maxF_ok hq]; exact Td.max_grows HGR.out.1 _ (fun r r' h1 h2 => asks_alike s o r r' h1 h2)))
        have HL3 := Aside0.mk (show decide (tlt x td.1.low) = false from decide_eq_false (by rw [← HXX.out, maxF_ok hq]; exact (Td.max_is _ td.1.l td.1.low).1))
        clear hq
        go_upto_region 13 with fail
        generalize hw : World.alloc w8 _ = w9
        have HF := Aside0.mk (show w9.heap[w8.heap.size]? = some (.cells #[.int .i64 x.1, .int .i64 x.2] 31 (0, 0)) from by rw [← hw]; exact blk_new _ _)
        have hb : Below w8.heap.size w8 w9 := by rw [← hw]; exact td_alloc _ _
        clear hw
        have HX_ := Aside0.mk (td_kept HX.out hb)
        clear HX
        have HX := Aside0.mk HX_.out
        clear HX_
        have HM_ := Aside0.mk (td_kept HM.out hb)
        clear HM
        have HM := Aside0.mk HM_.out
        clear HM_
        have HL_ := Aside0.mk (td_kept HL.out hb)
        clear HL
        have HL := Aside0.mk HL_.out
        clear HL_
        have HT_ := Aside0.mk (HT.out.step hb)
        clear HT
        have HT := Aside0.mk HT_.out
        clear HT_
        clear hb
        generalize w8.heap.size = gf at HF ⊢
        refine wp_region_noPanic ?_
        refine wp_region_held_drew (S := (fun V => V.cell? ⟨gf, 0, none⟩ = some (.int .i64 x.1) ∧ V.cell? ⟨gf, 1, none⟩ = some (.int .i64 x.2) ∧ V.cell? ⟨gm, 0, none⟩ = some (.int .i64 m.1) ∧ V.cell? ⟨gm, 1, none⟩ = some (.int .i64 m.2) ∧ V.cell? ⟨gl, 0, none⟩ = some (.int .i64 t.low.1) ∧ V.cell? ⟨gl, 1, none⟩ = some (.int .i64 t.low.2))) (by kernel_rfl) ⟨(blk_cell (td_kept HF.out (below_drew1 (Below.refl _ _))) 0).trans rfl, (blk_cell (td_kept HF.out (below_drew1 (Below.refl _ _))) 1).trans rfl, (blk_cell (td_kept HM.out (below_drew1 (Below.refl _ _))) 0).trans rfl, (blk_cell (td_kept HM.out (below_drew1 (Below.refl _ _))) 1).trans rfl, (blk_cell (td_kept HL.out (below_drew1 (Below.refl _ _))) 0).trans rfl, (blk_cell (td_kept HL.out (below_drew1 (Below.refl _ _))) 1).trans rfl⟩ (fun hHeld => ?_)
        generalize hwd : World.drew _ = wd at hHeld ⊢
        have hb : Below w9.heap.size w9 wd := by rw [← hwd]; exact below_drew1 (Below.refl _ _)
        clear hwd
        have HF_ := Aside0.mk (td_kept HF.out hb)
        clear HF
        have HF := Aside0.mk HF_.out
        clear HF_
        have HM_ := Aside0.mk (td_kept HM.out hb)
        clear HM
        have HM := Aside0.mk HM_.out
        clear HM_
        have HL_ := Aside0.mk (td_kept HL.out hb)
        clear HL
        have HL := Aside0.mk HL_.out
        clear HL_
        have HT_ := Aside0.mk (HT.out.step hb)
        clear HT
        have HT := Aside0.mk HT_.out
        clear HT_
        have HX_ := Aside0.mk (td_kept HX.out hb)
        clear HX
        have HX := Aside0.mk HX_.out
        clear HX_
        clear hb
        refine wpAnyH_take (i := 0) (oi := ⟨some 56, _, _, _, _, none⟩) (v := ?v0_22) rfl (by kernel_rfl) (by kernel_rfl) (by kernel_rfl) (fun _ _ _ h => h) (Or.inl ⟨by rfl, ?hy0_22⟩) (by with_reducible assumption) ?rest0_22
        case hy0_22 => (intro V_ hSw; (try dsimp only at hSw); go_simp; (try with_reducible rfl))
        case' rest0_22 => skip
        try simp only [Act.put, List.setIfInBounds_toArray, List.set_cons_zero, List.set_cons_succ]
        refine wpAnyH_take (i := 1) (oi := ⟨some 57, _, _, _, _, none⟩) (v := ?v1_23) rfl (by kernel_rfl) (by kernel_rfl) (by kernel_rfl) (fun _ _ _ h => h) (Or.inl ⟨by rfl, ?hy1_23⟩) (by with_reducible assumption) ?rest1_23
        case hy1_23 => (intro V_ hSw; (try dsimp only at hSw); go_simp; (try with_reducible rfl))
        case' rest1_23 => skip
        try simp only [Act.put, List.setIfInBounds_toArray, List.set_cons_zero, List.set_cons_succ]
        refine wpAnyH_take (i := 2) (oi := ⟨some 58, _, _, _, _, none⟩) (v := ?v2_24) rfl (by kernel_rfl) (by kernel_rfl) (by kernel_rfl) (fun _ _ _ h => h) (Or.inl ⟨by rfl, ?hy2_24⟩) (by with_reducible assumption) ?rest2_24
        case hy2_24 => (intro V_ hSw; (try dsimp only at hSw); go_simp; (try with_reducible rfl))
        case' rest2_24 => skip
        try simp only [Act.put, List.setIfInBounds_toArray, List.set_cons_zero, List.set_cons_succ]
        refine wpAnyH_take (i := 3) (oi := ⟨some 59, _, _, _, _, none⟩) (v := ?v3_25) rfl (by kernel_rfl) (by kernel_rfl) (by kernel_rfl) (fun _ _ _ h => h) (Or.inl ⟨by rfl, ?hy3_25⟩) (by with_reducible assumption) ?rest3_25
        case hy3_25 => (intro V_ hSw; (try dsimp only at hSw); go_simp; (try with_reducible rfl))
        case' rest3_25 => skip
        try simp only [Act.put, List.setIfInBounds_toArray, List.set_cons_zero, List.set_cons_succ]
        refine wpAnyH_take (i := 4) (oi := ⟨some 60, _, _, _, _, some (3, false)⟩) (v := ?v4_26) rfl (by kernel_rfl) (by kernel_rfl) (by kernel_rfl) (fun _ _ _ h => h) (Or.inl ⟨by rfl, ?hy4_26⟩) (by with_reducible assumption) ?rest4_26
        case hy4_26 => (intro V_ hSw; (try dsimp only at hSw); go_simp; (try with_reducible rfl))
        case' rest4_26 => skip
        try simp only [Act.put, List.setIfInBounds_toArray, List.set_cons_zero, List.set_cons_succ]
        refine wpAnyH_take (i := 5) (oi := ⟨some 61, _, _, _, _, some (3, false)⟩) (v := ?v5_27) rfl (by kernel_rfl) (by kernel_rfl) (by kernel_rfl) (fun _ _ _ h => h) (Or.inl ⟨by rfl, ?hy5_27⟩) (by with_reducible assumption) ?rest5_27
        case hy5_27 => (intro V_ hSw; (try dsimp only at hSw); go_simp; (try with_reducible rfl))
        case' rest5_27 => skip
        try simp only [Act.put, List.setIfInBounds_toArray, List.set_cons_zero, List.set_cons_succ]
        refine wpAnyH_ready (rs := [6]) (by kernel_rfl) (by simp) ?_
        refine AllReadyH.cons (o := ⟨some 62, _, _, _, _, some (3, false)⟩) rfl (fun K hK => ?_) ?_
        · go_simp
          refine (td_less x m _).mono ?_
          rintro e wq5 ⟨rfl, hb⟩
          have HF_ := Aside0.mk (td_kept HF.out hb)
          clear HF
          have HF := Aside0.mk HF_.out
          clear HF_
          have HM_ := Aside0.mk (td_kept HM.out hb)
          clear HM
          have HM := Aside0.mk HM_.out
          clear HM_
          have HL_ := Aside0.mk (td_kept HL.out hb)
          clear HL
          have HL := Aside0.mk HL_.out
          clear HL_
          have HT_ := Aside0.mk (HT.out.step hb)
          clear HT
          have HT := Aside0.mk HT_.out
          clear HT_
          have HX_ := Aside0.mk (td_kept HX.out hb)
          clear HX
          have HX := Aside0.mk HX_.out
          clear HX_
          clear hb
          rw [HL1.out]
          refine hK.out _ _ ⟨(blk_cell (td_kept HF.out (Below.refl _ _)) 0).trans rfl, (blk_cell (td_kept HF.out (Below.refl _ _)) 1).trans rfl, (blk_cell (td_kept HM.out (Below.refl _ _)) 0).trans rfl, (blk_cell (td_kept HM.out (Below.refl _ _)) 1).trans rfl, (blk_cell (td_kept HL.out (Below.refl _ _)) 0).trans rfl, (blk_cell (td_kept HL.out (Below.refl _ _)) 1).trans rfl⟩ (fun hHeld => ?_)
          clear hK K
          try simp only [Act.put, List.setIfInBounds_toArray, List.set_cons_zero, List.set_cons_succ]
          refine wpAnyH_take (i := 7) (oi := ⟨some 63, _, _, _, _, none⟩) (v := ?v7_28) rfl (by kernel_rfl) (by kernel_rfl) (by kernel_rfl) (fun _ _ _ h => h) (Or.inl ⟨by rfl, ?hy7_28⟩) (by with_reducible assumption) ?rest7_28
          case hy7_28 => (intro V_ hSw; (try dsimp only at hSw); go_simp; (try with_reducible rfl))
          case' rest7_28 => skip
          try simp only [Act.put, List.setIfInBounds_toArray, List.set_cons_zero, List.set_cons_succ]
          refine wpAnyH_take (i := 8) (oi := ⟨some 64, _, _, _, _, none⟩) (v := ?v8_29) rfl (by kernel_rfl) (by kernel_rfl) (by kernel_rfl) (fun _ _ _ h => h) (Or.inl ⟨by rfl, ?hy8_29⟩) (by with_reducible assumption) ?rest8_29
          case hy8_29 => (intro V_ hSw; (try dsimp only at hSw); go_simp; (try with_reducible rfl))
          case' rest8_29 => skip
          try simp only [Act.put, List.setIfInBounds_toArray, List.set_cons_zero, List.set_cons_succ]
          refine wpAnyH_take (i := 9) (oi := ⟨some 65, _, _, _, _, some (8, false)⟩) (v := ?v9_30) rfl (by kernel_rfl) (by kernel_rfl) (by kernel_rfl) (fun _ _ _ h => h) (Or.inl ⟨by rfl, ?hy9_30⟩) (by with_reducible assumption) ?rest9_30
          case hy9_30 => (intro V_ hSw; (try dsimp only at hSw); go_simp; (try with_reducible rfl))
          case' rest9_30 => skip
          try simp only [Act.put, List.setIfInBounds_toArray, List.set_cons_zero, List.set_cons_succ]
          refine wpAnyH_take (i := 11) (oi := ⟨some 67, _, _, _, _, some (8, false)⟩) (v := ?v11_31) rfl (by kernel_rfl) (by kernel_rfl) (by kernel_rfl) (fun _ _ _ h => h) (Or.inl ⟨by rfl, ?hy11_31⟩) (by with_reducible assumption) ?rest11_31
          case hy11_31 => (intro V_ hSw; (try dsimp only at hSw); go_simp; (try with_reducible rfl))
          case' rest11_31 => skip
          try simp only [Act.put, List.setIfInBounds_toArray, List.set_cons_zero, List.set_cons_succ]
          refine wpAnyH_ready (rs := [10]) (by kernel_rfl) (by simp) ?_
          refine AllReadyH.cons (o := ⟨some 66, _, _, _, _, some (8, false)⟩) rfl (fun K hK => ?_) ?_
          · go_simp
            refine (td_low wn _ g td.1 HT.out).mono ?_
            rintro e wq6 ⟨rfl, hb⟩
            have HF_ := Aside0.mk (td_kept HF.out hb)
            clear HF
            have HF := Aside0.mk HF_.out
            clear HF_
            have HM_ := Aside0.mk (td_kept HM.out hb)
            clear HM
            have HM := Aside0.mk HM_.out
            clear HM_
            have HL_ := Aside0.mk (td_kept HL.out hb)
            clear HL
            have HL := Aside0.mk HL_.out
            clear HL_
            have HT_ := Aside0.mk (HT.out.step hb)
            clear HT
            have HT := Aside0.mk HT_.out
            clear HT_
            have HX_ := Aside0.mk (td_kept HX.out hb)
            clear HX
            have HX := Aside0.mk HX_.out
            clear HX_
            clear hb
            refine hK.out _ _ ⟨(blk_cell (td_kept HF.out (Below.refl _ _)) 0).trans rfl, (blk_cell (td_kept HF.out (Below.refl _ _)) 1).trans rfl, (blk_cell (td_kept HM.out (Below.refl _ _)) 0).trans rfl, (blk_cell (td_kept HM.out (Below.refl _ _)) 1).trans rfl, (blk_cell (td_kept HL.out (Below.refl _ _)) 0).trans rfl, (blk_cell (td_kept HL.out (Below.refl _ _)) 1).trans rfl⟩ (fun hHeld => ?_)
            clear hK K
            try simp only [Act.put, List.setIfInBounds_toArray, List.set_cons_zero, List.set_cons_succ]
            refine wpAnyH_ready (rs := [12]) (by kernel_rfl) (by simp) ?_
            refine AllReadyH.cons (o := ⟨some 68, _, _, _, _, some (8, false)⟩) rfl (fun K hK => ?_) ?_
            · go_simp
              refine (td_less td.1.low t.low _).mono ?_
              rintro e wq7 ⟨rfl, hb⟩
              have HF_ := Aside0.mk (td_kept HF.out hb)
              clear HF
              have HF := Aside0.mk HF_.out
              clear HF_
              have HM_ := Aside0.mk (td_kept HM.out hb)
              clear HM
              have HM := Aside0.mk HM_.out
              clear HM_
              have HL_ := Aside0.mk (td_kept HL.out hb)
              clear HL
              have HL := Aside0.mk HL_.out
              clear HL_
              have HT_ := Aside0.mk (HT.out.step hb)
              clear HT
              have HT := Aside0.mk HT_.out
              clear HT_
              have HX_ := Aside0.mk (td_kept HX.out hb)
              clear HX
              have HX := Aside0.mk HX_.out
              clear HX_
              clear hb
              rw [HL2.out]
              refine hK.out _ _ ⟨(blk_cell (td_kept HF.out (Below.refl _ _)) 0).trans rfl, (blk_cell (td_kept HF.out (Below.refl _ _)) 1).trans rfl, (blk_cell (td_kept HM.out (Below.refl _ _)) 0).trans rfl, (blk_cell (td_kept HM.out (Below.refl _ _)) 1).trans rfl, (blk_cell (td_kept HL.out (Below.refl _ _)) 0).trans rfl, (blk_cell (td_kept HL.out (Below.refl _ _)) 1).trans rfl⟩ (fun hHeld => ?_)
              clear hK K
              try simp only [Act.put, List.setIfInBounds_toArray, List.set_cons_zero, List.set_cons_succ]
              refine wpAnyH_take (i := 13) (oi := ⟨some 69, _, _, _, _, none⟩) (v := ?v13_32) rfl (by kernel_rfl) (by kernel_rfl) (by kernel_rfl) (fun _ _ _ h => h) (Or.inl ⟨by rfl, ?hy13_32⟩) (by with_reducible assumption) ?rest13_32
              case hy13_32 => (intro V_ hSw; (try dsimp only at hSw); go_simp; (try with_reducible rfl))
              case' rest13_32 => skip
              try simp only [Act.put, List.setIfInBounds_toArray, List.set_cons_zero, List.set_cons_succ]
              refine wpAnyH_take (i := 14) (oi := ⟨some 70, _, _, _, _, none⟩) (v := ?v14_33) rfl (by kernel_rfl) (by kernel_rfl) (by kernel_rfl) (fun _ _ _ h => h) (Or.inl ⟨by rfl, ?hy14_33⟩) (by with_reducible assumption) ?rest14_33
              case hy14_33 => (intro V_ hSw; (try dsimp only at hSw); go_simp; (try with_reducible rfl))
              case' rest14_33 => skip
              try simp only [Act.put, List.setIfInBounds_toArray, List.set_cons_zero, List.set_cons_succ]
              refine wpAnyH_take (i := 15) (oi := ⟨some 71, _, _, _, _, some (14, false)⟩) (v := ?v15_34) rfl (by kernel_rfl) (by kernel_rfl) (by kernel_rfl) (fun _ _ _ h => h) (Or.inl ⟨by rfl, ?hy15_34⟩) (by with_reducible assumption) ?rest15_34
              case hy15_34 => (intro V_ hSw; (try dsimp only at hSw); go_simp; (try with_reducible rfl))
              case' rest15_34 => skip
              try simp only [Act.put, List.setIfInBounds_toArray, List.set_cons_zero, List.set_cons_succ]
              refine wpAnyH_take (i := 16) (oi := ⟨some 72, _, _, _, _, some (14, false)⟩) (v := ?v16_35) rfl (by kernel_rfl) (by kernel_rfl) (by kernel_rfl) (fun _ _ _ h => h) (Or.inl ⟨by rfl, ?hy16_35⟩) (by with_reducible assumption) ?rest16_35
              case hy16_35 => (intro V_ hSw; (try dsimp only at hSw); go_simp; (try with_reducible rfl))
              case' rest16_35 => skip
              try simp only [Act.put, List.setIfInBounds_toArray, List.set_cons_zero, List.set_cons_succ]
              refine wpAnyH_take (i := 17) (oi := ⟨some 73, _, _, _, _, some (14, false)⟩) (v := ?v17_36) rfl (by kernel_rfl) (by kernel_rfl) (by kernel_rfl) (fun _ _ _ h => h) (Or.inl ⟨by rfl, ?hy17_36⟩) (by with_reducible assumption) ?rest17_36
              case hy17_36 => (intro V_ hSw; (try dsimp only at hSw); go_simp; (try with_reducible rfl))
              case' rest17_36 => skip
              try simp only [Act.put, List.setIfInBounds_toArray, List.set_cons_zero, List.set_cons_succ]
              refine wpAnyH_take (i := 18) (oi := ⟨some 74, _, _, _, _, some (17, true)⟩) (v := ?v18_37) rfl (by kernel_rfl) (by kernel_rfl) (by kernel_rfl) (fun _ _ _ h => h) (Or.inl ⟨by rfl, ?hy18_37⟩) (by with_reducible assumption) ?rest18_37
              case hy18_37 => (intro V_ hSw; (try dsimp only at hSw); go_simp; (try with_reducible rfl))
              case' rest18_37 => skip
              try simp only [Act.put, List.setIfInBounds_toArray, List.set_cons_zero, List.set_cons_succ]
              refine wpAnyH_take (i := 19) (oi := ⟨some 75, _, _, _, _, some (17, true)⟩) (v := ?v19_38) rfl (by kernel_rfl) (by kernel_rfl) (by kernel_rfl) (fun _ _ _ h => h) (Or.inl ⟨by rfl, ?hy19_38⟩) (by with_reducible assumption) ?rest19_38
              case hy19_38 => (intro V_ hSw; (try dsimp only at hSw); go_simp; (try with_reducible rfl))
              case' rest19_38 => skip
              try simp only [Act.put, List.setIfInBounds_toArray, List.set_cons_zero, List.set_cons_succ]
              refine wpAnyH_ready (rs := [20]) (by kernel_rfl) (by simp) ?_
              refine AllReadyH.cons (o := ⟨some 76, _, _, _, _, some (17, true)⟩) rfl (fun K hK => ?_) ?_
              · go_simp
                refine (td_low wn _ g td.1 HT.out).mono ?_
                rintro e wq8 ⟨rfl, hb⟩
                have HF_ := Aside0.mk (td_kept HF.out hb)
                clear HF
                have HF := Aside0.mk HF_.out
                clear HF_
                have HM_ := Aside0.mk (td_kept HM.out hb)
                clear HM
                have HM := Aside0.mk HM_.out
                clear HM_
                have HL_ := Aside0.mk (td_kept HL.out hb)
                clear HL
                have HL := Aside0.mk HL_.out
                clear HL_
                have HT_ := Aside0.mk (HT.out.step hb)
                clear HT
                have HT := Aside0.mk HT_.out
                clear HT_
                have HX_ := Aside0.mk (td_kept HX.out hb)
                clear HX
                have HX := Aside0.mk HX_.out
                clear HX_
                clear hb
                refine hK.out _ _ ⟨(blk_cell (td_kept HF.out (Below.refl _ _)) 0).trans rfl, (blk_cell (td_kept HF.out (Below.refl _ _)) 1).trans rfl, (blk_cell (td_kept HM.out (Below.refl _ _)) 0).trans rfl, (blk_cell (td_kept HM.out (Below.refl _ _)) 1).trans rfl, (blk_cell (td_kept HL.out (Below.refl _ _)) 0).trans rfl, (blk_cell (td_kept HL.out (Below.refl _ _)) 1).trans rfl⟩ (fun hHeld => ?_)
                clear hK K
                try simp only [Act.put, List.setIfInBounds_toArray, List.set_cons_zero, List.set_cons_succ]
                refine wpAnyH_ready (rs := [21]) (by kernel_rfl) (by simp) ?_
                refine AllReadyH.cons (o := ⟨some 77, _, _, _, _, some (17, true)⟩) rfl (fun K hK => ?_) ?_
                · go_simp
                  refine (td_less x td.1.low _).mono ?_
                  rintro e wq9 ⟨rfl, hb⟩
                  have HF_ := Aside0.mk (td_kept HF.out hb)
                  clear HF
                  have HF := Aside0.mk HF_.out
                  clear HF_
                  have HM_ := Aside0.mk (td_kept HM.out hb)
                  clear HM
                  have HM := Aside0.mk HM_.out
                  clear HM_
                  have HL_ := Aside0.mk (td_kept HL.out hb)
                  clear HL
                  have HL := Aside0.mk HL_.out
                  clear HL_
                  have HT_ := Aside0.mk (HT.out.step hb)
                  clear HT
                  have HT := Aside0.mk HT_.out
                  clear HT_
                  have HX_ := Aside0.mk (td_kept HX.out hb)
                  clear HX
                  have HX := Aside0.mk HX_.out
                  clear HX_
                  clear hb
                  rw [HL3.out]
                  refine hK.out _ _ ⟨(blk_cell (td_kept HF.out (Below.refl _ _)) 0).trans rfl, (blk_cell (td_kept HF.out (Below.refl _ _)) 1).trans rfl, (blk_cell (td_kept HM.out (Below.refl _ _)) 0).trans rfl, (blk_cell (td_kept HM.out (Below.refl _ _)) 1).trans rfl, (blk_cell (td_kept HL.out (Below.refl _ _)) 0).trans rfl, (blk_cell (td_kept HL.out (Below.refl _ _)) 1).trans rfl⟩ (fun hHeld => ?_)
                  clear hK K
                  try simp only [Act.put, List.setIfInBounds_toArray, List.set_cons_zero, List.set_cons_succ]
                  refine wpAnyH_take (i := 22) (oi := ⟨some 78, _, _, _, _, some (14, false)⟩) (v := ?v22_39) rfl (by kernel_rfl) (by kernel_rfl) (by kernel_rfl) (fun _ _ _ h => h) (Or.inl ⟨by rfl, ?hy22_39⟩) (by with_reducible assumption) ?rest22_39
                  case hy22_39 => (intro V_ hSw; (try dsimp only at hSw); go_simp; (try with_reducible rfl))
                  case' rest22_39 => skip
                  try simp only [Act.put, List.setIfInBounds_toArray, List.set_cons_zero, List.set_cons_succ]
                  refine wpAnyH_take (i := 23) (oi := ⟨some 79, _, _, _, _, none⟩) (v := ?v23_40) rfl (by kernel_rfl) (by kernel_rfl) (by kernel_rfl) (fun _ _ _ h => h) (Or.inl ⟨by rfl, ?hy23_40⟩) (by with_reducible assumption) ?rest23_40
                  case hy23_40 => (intro V_ hSw; (try dsimp only at hSw); go_simp; (try with_reducible rfl))
                  case' rest23_40 => skip
                  try simp only [Act.put, List.setIfInBounds_toArray, List.set_cons_zero, List.set_cons_succ]
                  refine wpAnyH_done (by kernel_rfl) ?_ _
                  refine NoPanic.normal ?_
                  clear hHeld
                  rename World => wz
                  have f0 : wz.cell? ⟨gf, 0, none⟩ = some (.int .i64 x.1) := (blk_cell HF.out 0).trans rfl
                  have f1 : wz.cell? ⟨gf, 1, none⟩ = some (.int .i64 x.2) := (blk_cell HF.out 1).trans rfl
                  have o0 : wz.cell? ⟨gm, 0, none⟩ = some (.int .i64 m.1) := (blk_cell HM.out 0).trans rfl
                  have o1 : wz.cell? ⟨gm, 1, none⟩ = some (.int .i64 m.2) := (blk_cell HM.out 1).trans rfl
                  have z0 := blk_frozen HM.out 0
                  have z1 := blk_frozen HM.out 1
                  go_upto_region 16 with fail
                  have hm1 := blk_put (cs' := #[.int .i64 x.1, .int .i64 m.2]) HM.out 0 (.int .i64 x.1) rfl
                  have hm2 := blk_put (cs' := #[.int .i64 x.1, .int .i64 x.2]) hm1 1 (.int .i64 x.2) rfl
                  obtain ⟨q1, q2, A_, c_, q3, q4⟩ := HT.out
                  have HT_ := Aside0.mk ((((TdA.mk q1 q2 q3 q4).far HM.out (i := 0) (by decide) HMN.out (fun e => HMG.out (congrArg some e.symm)) (.int .i64 x.1)).far hm1 (i := 1) (by decide) HMN.out (fun e => HMG.out (congrArg some e.symm)) (.int .i64 x.2)).at_)
                  have HX_ := Aside0.mk (blk_far (blk_far HX.out (p := ⟨gm, 0, none⟩) HMX.out (.int .i64 x.1)) (p := ⟨gm, 1, none⟩) HMX.out (.int .i64 x.2))
                  have HL_ := Aside0.mk (blk_far (blk_far HL.out (p := ⟨gm, 0, none⟩) HLM2.out.symm (.int .i64 x.1)) (p := ⟨gm, 1, none⟩) HLM2.out.symm (.int .i64 x.2))
                  have HM_ := Aside0.mk hm2
                  clear HT HX HM HL HF hm1 hm2 q1 q2 q3 q4 f0 f1 o0 o1 z0 z1
                  generalize hws : World.setCell _ _ _ = ws at HT_ HX_ HL_ HM_ ⊢
                  clear hws
                  have HT := Aside0.mk HT_.out
                  have HX := Aside0.mk HX_.out
                  have HL := Aside0.mk HL_.out
                  have HM := Aside0.mk HM_.out
                  clear HT_ HX_ HL_ HM_
                  go_wp2_with fail
                  refine (td_low wn ws g td.1 HT.out).mono ?_
                  rintro e wt ⟨rfl, hb⟩
                  have HX_ := Aside0.mk (td_kept HX.out hb)
                  clear HX
                  have HX := Aside0.mk HX_.out
                  clear HX_
                  have HM_ := Aside0.mk (td_kept HM.out hb)
                  clear HM
                  have HM := Aside0.mk HM_.out
                  clear HM_
                  have HL_ := Aside0.mk (td_kept HL.out hb)
                  clear HL
                  have HL := Aside0.mk HL_.out
                  clear HL_
                  have HT_ := Aside0.mk (HT.out.step hb)
                  clear HT
                  have HT := Aside0.mk HT_.out
                  clear HT_
                  clear hb
                  have o0 : wt.cell? ⟨gl, 0, none⟩ = some (.int .i64 t.low.1) := (blk_cell HL.out 0).trans rfl
                  have o1 : wt.cell? ⟨gl, 1, none⟩ = some (.int .i64 t.low.2) := (blk_cell HL.out 1).trans rfl
                  have z0 := blk_frozen HL.out 0
                  have z1 := blk_frozen HL.out 1
                  go_wp2_with fail
                  have hm1 := blk_put (cs' := #[.int .i64 td.1.low.1, .int .i64 t.low.2]) HL.out 0 (.int .i64 td.1.low.1) rfl
                  have hm2 := blk_put (cs' := #[.int .i64 td.1.low.1, .int .i64 td.1.low.2]) hm1 1 (.int .i64 td.1.low.2) rfl
                  obtain ⟨q1, q2, A_, c_, q3, q4⟩ := HT.out
                  have HT_ := Aside0.mk ((((TdA.mk q1 q2 q3 q4).far HL.out (i := 0) (by decide) HLN.out (fun e => HLG.out (congrArg some e.symm)) (.int .i64 td.1.low.1)).far hm1 (i := 1) (by decide) HLN.out (fun e => HLG.out (congrArg some e.symm)) (.int .i64 td.1.low.2)).at_)
                  have HX_ := Aside0.mk (blk_far (blk_far HX.out (p := ⟨gl, 0, none⟩) HLX.out (.int .i64 td.1.low.1)) (p := ⟨gl, 1, none⟩) HLX.out (.int .i64 td.1.low.2))
                  have HM_ := Aside0.mk (blk_far (blk_far HM.out (p := ⟨gl, 0, none⟩) HLM2.out (.int .i64 td.1.low.1)) (p := ⟨gl, 1, none⟩) HLM2.out (.int .i64 td.1.low.2))
                  have HL_ := Aside0.mk hm2
                  clear HT HX HM HL hm1 hm2 q1 q2 q3 q4 o0 o1 z0 z1
                  go_roundg (100 - i)
                  case measure => have h1 := HK.out; have h2 := HH.out.2; omega
                  case rel => exact ⟨i + 1, td.1, x, congrArg (Value.int .i64) (by first | exact HWI.out | exact HWI2.out | rfl | omega), ⟨by have h1 := HK.out; have h2 := HH.out.2; omega⟩, HI2, HXX, HT_, HX_, HM_, HL_⟩
                exact AllReadyH.nil
              exact AllReadyH.nil
            exact AllReadyH.nil
          exact AllReadyH.nil
        exact AllReadyH.nil
    case neg =>
      have HLEN := Aside0.mk HI.out.2
      have d7 : decide ((0 : Int) ≤ (t.l.length : Int)) = true := decide_eq_true (by omega)
      have d8 : decide ((t.l.length : Int) ≤ 64) = true := decide_eq_true (by have := HLEN.out; omega)
      have d8n : decide (t.l.length ≤ 64) = true := decide_eq_true HLEN.out
      by_cases h1 : i < l0.length
      case' pos =>
        have h2 : ¬ i < 100 := fun h => hgo ⟨h1, h⟩
        have d1 : decide ((i : Int) < (l0.length : Int)) = true := decide_eq_true (by omega)
        have d1n : decide (i < l0.length) = true := decide_eq_true (by omega)
        have d2 : decide ((i : Int) < 100) = false := decide_eq_false (by omega)
        have d2n : decide (i < 100) = false := decide_eq_false (by omega)
        clear h1 h2 hgo
      case' neg =>
        have d1 : decide ((i : Int) < (l0.length : Int)) = false := decide_eq_false (by omega)
        have d1n : decide (i < l0.length) = false := decide_eq_false (by omega)
        clear h1 hgo
      all_goals
        go_wp2_with fail
        refine (td_len wn wr g t HT.out).mono ?_
        rintro e w7 ⟨rfl, hb⟩
        have HT_ := Aside0.mk (HT.out.step hb)
        clear HT
        have HT := Aside0.mk HT_.out
        clear HT_
        clear hb
        go_wp2_with fail
        refine (td_len wn w7 g t HT.out).mono ?_
        rintro e w8 ⟨rfl, hb⟩
        have HZ := Aside0.mk (below_step HW2.out (HT.out.step hb).below)
        clear hb
        go_wp2_with fail
        go_ret
        exact ⟨rfl, HZ.out⟩
end Go.Proofs.Ytaccfbpfennjkaa.PTideDoes

