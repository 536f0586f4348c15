/- TideBelow: no Max is above the greatest one of the stamps that were added, the low waters that were raised to, and the first one: the walk (typed by hand). -/
import Derived.Test.YtaccfbpfennjkaaTdHolds
namespace Go.Proofs.Ytaccfbpfennjkaa.PTideDoes
open Go.RowKit Go.Proofs.YtaccfbpfennjkaaW.PrintWords Go.Proofs.YtaccfbpfennjkaaW.PrintLast Go.Proofs.YtaccfbpfennjkaaW.PrintMore
attribute [local go_sem] max2_int min2_int max_two min_two max_three min_three max_four min_four   -- for this text's walks alone
set_option linter.unusedVariables false
set_option linter.unusedSimpArgs false
theorem done_below (t : Td S24) (m : Int × Int) (h : t.below m) (d : S33) : (doneF t d).1.below (if (doneF t d).2 = true then tmx m (d.f2.f0, d.f2.f1) else m) := by
  unfold doneF
  split
  · split
    · exact Td.raise_below h _
    · exact h
  · split
    · exact Td.add_below h _ _ _
    · exact h
set_option maxHeartbeats 16000000 in
set_option maxRecDepth 100000 in
theorem kb_walk (l0 : List S33) (s : S24) (o : Int) (A0 : Option Addr) (c0 : Nat) (w : World) (hwf : (l0.length ≤ maxLen ∧ l0.length * 64 ≤ 140737488351232 ∧ ∀ y0 ∈ l0, ((Lit.int .i64 y0.f0).wf = true ∧ (y0.f1.f0.size ≤ 140737488351232 ∧ y0.f1.f1.size ≤ 140737488351232) ∧ ((Lit.int .i64 y0.f2.f0).wf = true ∧ (Lit.int .i64 y0.f2.f1).wf = true) ∧ (Lit.int .i64 y0.f3).wf = true))) (hr0 : Kd.C k33 w A0 l0.length l0) :
    Calls Try.prog 6 #[.slice A0 l0.length c0, .agg #[.string s.f0, .string s.f1], .int .i64 o] w fun e w' => e = .returned (.bool true) ∧ Below w.heap.size w w' := by
  have HR0 := Aside0.mk hr0
  have HWF := Aside0.mk (fun d (hd : d ∈ l0) => bring4_f d.f0 (wf_i64 (hwf.2.2 d hd).1).1 (by have := (wf_i64 (hwf.2.2 d hd).1).2; omega))
  have HLM := Aside0.mk hwf.2.1
  clear hr0 hwf
  go_enter Try.func6, Try.ntmps6
  go_upto_region 1 with fail
  generalize hw1 : World.alloc w _ = w1
  have HB := Aside0.mk (show Below w.heap.size w w1 from by rw [← hw1]; exact td_alloc w _)
  have HX := Aside0.mk (show w1.heap[w.heap.size]? = some (.cells #[.string s.f0, .string s.f1] 24 (0, 0)) from by rw [← hw1]; exact blk_new w _)
  clear hw1
  obtain ⟨n, hn⟩ : ∃ n, w.heap.size = n := ⟨_, rfl⟩
  have HNW := Aside0.mk hn
  rw [hn] at HX ⊢
  clear hn
  go_wp2_with fail
  refine (td_works _).mono ?_
  rintro e w2 ⟨rfl, hb⟩
  have HX_ := Aside0.mk (td_kept HX.out hb)
  clear HX
  have HX := Aside0.mk HX_.out
  clear HX_
  have HB_ := Aside0.mk (below_step HB.out hb)
  clear HB
  have HB := Aside0.mk HB_.out
  clear HB_
  clear hb
  go_wp2_with fail
  refine (scriptoriumlaw17_at.calls 2 2 2 2 _ rfl).mono ?_
  rintro e wn ⟨rfl, hb⟩
  have HX_ := Aside0.mk (td_kept HX.out hb)
  clear HX
  have HX := Aside0.mk HX_.out
  clear HX_
  have HB_ := Aside0.mk (below_step HB.out hb)
  clear HB
  have HB := Aside0.mk HB_.out
  clear HB_
  clear hb
  go_wp2_with fail
  refine (td_new (2, 2) _ (by kernel_rfl)).mono ?_
  rintro e w3 ⟨g, rfl, hT⟩
  have HW2 := Aside0.mk HB.out
  have HX_ := Aside0.mk (td_kept HX.out hT.below)
  have HNG := Aside0.mk (show some n ≠ some g from by intro e; injection e with e; have h1 := blk_lt HX.out; have h2 := hT.own; omega)
  clear HX HB
  have HX := Aside0.mk HX_.out
  have HT := Aside0.mk (show TdAt wn w3 g (⟨(2, 2), []⟩ : Td S24) from hT)
  clear HX_ hT
  go_wp2_with fail
  refine (scriptoriumlaw17_at.calls 2 2 2 2 _ rfl).mono ?_
  rintro e w4 ⟨rfl, hb⟩
  have HX_ := Aside0.mk (td_kept HX.out hb)
  clear HX
  have HX := Aside0.mk HX_.out
  clear HX_
  have HT_ := Aside0.mk (HT.out.step hb)
  clear HT
  have HT := Aside0.mk HT_.out
  clear HT_
  clear hb
  go_upto_region 7 with fail
  generalize hw : World.alloc w4 _ = w5
  have HM := Aside0.mk (show w5.heap[w4.heap.size]? = some (.cells #[.int .i64 2, .int .i64 2] 31 (0, 0)) from by rw [← hw]; exact blk_new _ _)
  have hb : Below w4.heap.size w4 w5 := by rw [← hw]; exact td_alloc _ _
  have HMG := Aside0.mk (show some w4.heap.size ≠ some g from by intro e; injection e with e; have h1 := HT.out.lt; omega)
  have HMX := Aside0.mk (show n ≠ w4.heap.size from Nat.ne_of_lt (blk_lt HX.out))
  have HMN := Aside0.mk (show wn.heap.size ≤ w4.heap.size from HT.out.below.size)
  clear hw
  have HX_ := Aside0.mk (td_kept HX.out hb)
  clear HX
  have HX := Aside0.mk HX_.out
  clear HX_
  have HT_ := Aside0.mk (HT.out.step hb)
  clear HT
  have HT := Aside0.mk HT_.out
  clear HT_
  clear hb
  generalize w4.heap.size = gm at HM HMG HMX HMN ⊢
  obtain ⟨t, ht⟩ : ∃ t, (⟨(2, 2), []⟩ : Td S24) = t := ⟨_, rfl⟩
  have HI := Aside0.mk (show t.ok ∧ t.l.length ≤ 64 ∧ t.below (2, 2) from by rw [← ht]; exact ⟨fun r hr => absurd hr (by simp), Nat.zero_le _, tle_refl _, fun r hr => absurd hr (by simp)⟩)
  rw [ht] at HT
  clear ht
  go_wp2_with fail
  go_loopg [10] 101 (fun kq v wr => ∃ (i : Nat) (t : Td S24) (m : Int × Int), v = .int .i64 (i : Int) ∧ Aside0 (i + kq = 101) ∧ Aside0 (t.ok ∧ t.l.length ≤ 64 ∧ t.below m) ∧ Aside0 (TdAt wn wr g t) ∧ Aside0 (wr.heap[n]? = some (.cells #[.string s.f0, .string s.f1] 24 (0, 0))) ∧ Aside0 (wr.heap[gm]? = some (.cells #[.int .i64 m.1, .int .i64 m.2] 31 (0, 0))))
  case atStart => exact ⟨0, t, (2, 2), rfl, ⟨rfl⟩, HI, HT, HX, HM⟩
  case round =>
    clear HI HT HX HM
    obtain ⟨i, t, m, rfl, HK, HI, HT, HX, HM⟩ := hrel
    by_cases hgo : i < l0.length ∧ i < 100
    case pos =>
      obtain ⟨h1, h2⟩ := hgo
      have d1 : decide ((i : Int) < (l0.length : Int)) = true := decide_eq_true (by omega)
      have d1n : decide (i < l0.length) = true := decide_eq_true (by omega)
      have d2 : decide ((i : Int) < 100) = true := decide_eq_true (by omega)
      have d2n : decide (i < 100) = true := decide_eq_true (by omega)
      obtain ⟨ad2, ea, d, hd, hld⟩ := ld_T33 HR0.out i h1
      cases ea
      have hmem : d ∈ l0 := by
        rw [← hd, List.getD_eq_getElem?_getD, List.getElem?_eq_getElem h1]
        exact List.getElem_mem h1
      have HBR := Aside0.mk (HWF.out d hmem)
      have HLD := Aside0.mk (hld wr (below_step HW2.out HT.out.below))
      have HCL := Aside0.mk (fun (V : World) (hb : Below w.heap.size w V) => (show V.cell? (ad2.add (i * 6)) = some (.int .i64 d.f0) ∧ V.cell? ⟨(ad2.add (i * 6)).block, (ad2.add (i * 6)).off + 3, none⟩ = some (.int .i64 d.f2.f0) ∧ V.cell? ⟨(ad2.add (i * 6)).block, (ad2.add (i * 6)).off + 4, none⟩ = some (.int .i64 d.f2.f1) from ⟨by have q := hld V hb 0 _ rfl; exact q, by have q := hld V hb 3 _ rfl; rw [add_field _ _ 3 (by omega)] at q; exact q, by have q := hld V hb 4 _ rfl; rw [add_field _ _ 4 (by omega)] at q; exact q⟩))
      have HH := Aside0.mk (And.intro h1 h2)
      have p0 := eq_true (show (0 : Int) ≤ (i : Int) by omega)
      have q0 := eq_true (show (i : Int) < (l0.length : Int) by omega)
      have q0n := eq_true h1
      have hwi : Go.RowKit.wrap64 ((i : Int) + 1) = ((i + 1 : Nat) : Int) := by
        unfold Go.RowKit.wrap64
        omega
      have HWI := Aside0.mk hwi
      have HWI2 := Aside0.mk ((i64_w ((i : Int) + 1)).trans hwi)
      clear hwi h1 h2 hd hld hmem
      go_wp2_with (refine wpList_load_at rfl 33 _ rfl _ (by rfl) _ _ HLD.out Try.underlying33 rfl (by kernel_rfl) ?_)
      refine (td_done wn wr g t d HT.out HI.out.2.1 HBR.out).mono ?_
      rintro e w7 ⟨rfl, hT, hN⟩
      have HX_ := Aside0.mk (hN.blk HX.out HNG.out (by decide))
      clear HX
      have HX := Aside0.mk HX_.out
      clear HX_
      have HM_ := Aside0.mk (hN.blk HM.out HMG.out (by decide))
      clear HM
      have HM := Aside0.mk HM_.out
      clear HM_
      clear HT
      have HT := Aside0.mk hT
      clear hT hN
      have HI2 := Aside0.mk (And.intro (done_grows t HI.out.1 d).2 (And.intro (done_len t HI.out.2.1 d) (done_below t m HI.out.2.2 d)))
      clear HLD
      obtain ⟨td, htd⟩ : ∃ td, doneF t d = td := ⟨_, rfl⟩
      rw [htd] at HT HI2 ⊢
      clear htd
      obtain ⟨b, hb⟩ : ∃ b, td.2 = b := ⟨_, rfl⟩
      rw [hb]
      have HDB := Aside0.mk hb
      clear hb
      cases b
      case false =>
        go_wp2_with fail
        go_roundg (100 - i)
        case measure => have h1 := HK.out; have h2 := HH.out.2; omega
        case rel => exact ⟨i + 1, td.1, m, congrArg (Value.int .i64) (by first | exact HWI.out | exact HWI2.out | rfl | omega), ⟨by have h1 := HK.out; have h2 := HH.out.2; omega⟩, ⟨by have q := HI2.out.2.2; rw [HDB.out, if_neg (by decide)] at q; exact ⟨HI2.out.1, HI2.out.2.1, q⟩⟩, HT, HX, HM⟩
      case true =>
        go_upto_region 11 with fail
        refine wp_region_noPanic ?_
        refine wp_region_held_drew (S := (fun V => V.cell? (ad2.add (i * 6)) = some (.int .i64 d.f0) ∧ V.cell? ⟨(ad2.add (i * 6)).block, (ad2.add (i * 6)).off + 3, none⟩ = some (.int .i64 d.f2.f0) ∧ V.cell? ⟨(ad2.add (i * 6)).block, (ad2.add (i * 6)).off + 4, none⟩ = some (.int .i64 d.f2.f1))) (by kernel_rfl) (HCL.out _ (below_step HW2.out (HT.out.step (below_drew1 (Below.refl _ _))).below)) (fun hHeld => ?_)
        generalize hwd : World.drew _ = wd at hHeld ⊢
        have hb : Below w7.heap.size w7 wd := by rw [← hwd]; exact below_drew1 (Below.refl _ _)
        clear hwd
        have HX_ := Aside0.mk (td_kept HX.out hb)
        clear HX
        have HX := Aside0.mk HX_.out
        clear HX_
        have HT_ := Aside0.mk (HT.out.step hb)
        clear HT
        have HT := Aside0.mk HT_.out
        clear HT_
        have HM_ := Aside0.mk (td_kept HM.out hb)
        clear HM
        have HM := Aside0.mk HM_.out
        clear HM_
        clear hb
        refine wpAnyH_take (i := 1) (oi := ⟨some 40, _, _, _, _, none⟩) (v := ?v1_1) rfl (by kernel_rfl) (by kernel_rfl) (by kernel_rfl) (fun _ _ _ h => h) (Or.inl ⟨by rfl, ?hy1_1⟩) (by with_reducible assumption) ?rest1_1
        case hy1_1 => (intro V_ hSw; (try dsimp only at hSw); go_simp; (try with_reducible rfl))
        case' rest1_1 => skip
        try simp only [Act.put, List.setIfInBounds_toArray, List.set_cons_zero, List.set_cons_succ]
        refine wpAnyH_take (i := 2) (oi := ⟨some 41, _, _, _, _, none⟩) (v := ?v2_2) rfl (by kernel_rfl) (by kernel_rfl) (by kernel_rfl) (fun _ _ _ h => h) (Or.inl ⟨by rfl, ?hy2_2⟩) (by with_reducible assumption) ?rest2_2
        case hy2_2 => (intro V_ hSw; (try dsimp only at hSw); go_simp; (try with_reducible rfl))
        case' rest2_2 => skip
        try simp only [Act.put, List.setIfInBounds_toArray, List.set_cons_zero, List.set_cons_succ]
        refine wpAnyH_take (i := 3) (oi := ⟨some 42, _, _, _, _, none⟩) (v := ?v3_3) rfl (by kernel_rfl) (by kernel_rfl) (by kernel_rfl) (fun _ _ _ h => h) (Or.inl ⟨by rfl, ?hy3_3⟩) (by with_reducible assumption) ?rest3_3
        case hy3_3 => (intro V_ hSw; (try dsimp only at hSw); go_simp; (try with_reducible rfl))
        case' rest3_3 => skip
        try simp only [Act.put, List.setIfInBounds_toArray, List.set_cons_zero, List.set_cons_succ]
        refine wpAnyH_take (i := 4) (oi := ⟨some 43, _, _, _, _, none⟩) (v := ?v4_4) rfl (by kernel_rfl) (by kernel_rfl) (by kernel_rfl) (fun _ _ _ h => h) (Or.inl ⟨by rfl, ?hy4_4⟩) (by with_reducible assumption) ?rest4_4
        case hy4_4 => (intro V_ hSw; (try dsimp only at hSw); go_simp; (try with_reducible rfl))
        case' rest4_4 => skip
        try simp only [Act.put, List.setIfInBounds_toArray, List.set_cons_zero, List.set_cons_succ]
        refine wpAnyH_take (i := 5) (oi := ⟨some 44, _, _, _, _, none⟩) (v := ?v5_5) rfl (by kernel_rfl) (by kernel_rfl) (by kernel_rfl) (fun _ _ _ h => h) (Or.inl ⟨by rfl, ?hy5_5⟩) (by with_reducible assumption) ?rest5_5
        case hy5_5 => (intro V_ hSw; (try dsimp only at hSw); go_simp; (try with_reducible rfl))
        case' rest5_5 => skip
        try simp only [Act.put, List.setIfInBounds_toArray, List.set_cons_zero, List.set_cons_succ]
        refine wpAnyH_ready (rs := [0]) (by kernel_rfl) (by simp) ?_
        refine AllReadyH.cons (o := ⟨some 39, _, _, _, _, none⟩) rfl (fun K hK => ?_) ?_
        · have o0 : wd.cell? ⟨gm, 0, none⟩ = some (.int .i64 m.1) := (blk_cell HM.out 0).trans rfl
          have o1 : wd.cell? ⟨gm, 1, none⟩ = some (.int .i64 m.2) := (blk_cell HM.out 1).trans rfl
          go_simp
          clear o0 o1
          refine hK.out _ _ hHeld (fun hHeld => ?_)
          clear hK K
          try simp only [Act.put, List.setIfInBounds_toArray, List.set_cons_zero, List.set_cons_succ]
          refine wpAnyH_ready (rs := [6]) (by kernel_rfl) (by simp) ?_
          refine AllReadyH.cons (o := ⟨some 45, _, _, _, _, none⟩) rfl (fun K hK => ?_) ?_
          · refine Kd.R_lit_step k31 (w0 := wd) wd.heap.size 31 ?hg (N := 45) ?hd (xs := ([⟨(m).1, (m).2⟩, ⟨((d.f2.f0, d.f2.f1)).1, ((d.f2.f0, d.f2.f1)).2⟩] : List S31)) (inner := [.int .i64 (m).1, .int .i64 (m).2, .int .i64 ((d.f2.f0, d.f2.f1)).1, .int .i64 ((d.f2.f0, d.f2.f1)).2]) (ok := fun _ => True) (okp := fun _ => True) ?hr ?hp (fun _ hk => hk) trivial (Below.refl _ _) (Nat.le_refl _) (by simp) ?_
            case hg => rfl
            case hd => rfl
            case hr => first | (go_simp; done) | (go_simp; rfl)
            case hp => exact two_rep _ _ _ _ _
            intro vy wl hoy hb hgy hny
            obtain ⟨Ay, cy, ey⟩ := Kd.R_slice hoy
            subst ey
            have HCY := Aside0.mk (Kd.R_reads' hoy).2.2
            have HCLN := Aside0.mk (Kd.R_reads' hoy).2.1
            clear hoy hgy hny
            have HX_ := Aside0.mk (td_kept HX.out hb)
            clear HX
            have HX := Aside0.mk HX_.out
            clear HX_
            have HT_ := Aside0.mk (HT.out.step hb)
            clear HT
            have HT := Aside0.mk HT_.out
            clear HT_
            have HM_ := Aside0.mk (td_kept HM.out hb)
            clear HM
            have HM := Aside0.mk HM_.out
            clear HM_
            clear hb
            refine hK.out _ _ (HCL.out _ (below_step HW2.out HT.out.below)) (fun hHeld => ?_)
            clear hK K
            try simp only [Act.put, List.setIfInBounds_toArray, List.set_cons_zero, List.set_cons_succ]
            refine wpAnyH_ready (rs := [7]) (by kernel_rfl) (by simp) ?_
            refine AllReadyH.cons (o := ⟨some 46, _, _, _, _, none⟩) rfl (fun K hK => ?_) ?_
            · go_simp
              refine (td_max2 m (d.f2.f0, d.f2.f1) _ _ _ HCY.out HCLN.out).mono ?_
              rintro e w9 ⟨rfl, hb⟩
              clear HCY HCLN
              have HX_ := Aside0.mk (td_kept HX.out hb)
              clear HX
              have HX := Aside0.mk HX_.out
              clear HX_
              have HT_ := Aside0.mk (HT.out.step hb)
              clear HT
              have HT := Aside0.mk HT_.out
              clear HT_
              have HM_ := Aside0.mk (td_kept HM.out hb)
              clear HM
              have HM := Aside0.mk HM_.out
              clear HM_
              clear hb
              refine hK.out _ _ (HCL.out _ (below_step HW2.out HT.out.below)) (fun hHeld => ?_)
              clear hK K
              try simp only [Act.put, List.setIfInBounds_toArray, List.set_cons_zero, List.set_cons_succ]
              refine wpAnyH_ready (rs := [8]) (by kernel_rfl) (by simp) ?_
              refine AllReadyH.cons (o := ⟨none, _, _, _, _, none⟩) rfl (fun K hK => ?_) ?_
              · have o0 : w9.cell? ⟨gm, 0, none⟩ = some (.int .i64 m.1) := (blk_cell HM.out 0).trans rfl
                have o1 : w9.cell? ⟨gm, 1, none⟩ = some (.int .i64 m.2) := (blk_cell HM.out 1).trans rfl
                have f0 := blk_frozen HM.out 0
                have f1 := blk_frozen HM.out 1
                go_simp
                clear o0 o1 f0 f1
                obtain ⟨m', hm'⟩ : ∃ m', tmx m (d.f2.f0, d.f2.f1) = m' := ⟨_, rfl⟩
                rw [hm']
                have HMM := Aside0.mk hm'
                clear hm'
                have hm1 := blk_put (cs' := #[.int .i64 m'.1, .int .i64 m.2]) HM.out 0 (.int .i64 m'.1) rfl
                have hm2 := blk_put (cs' := #[.int .i64 m'.1, .int .i64 m'.2]) hm1 1 (.int .i64 m'.2) rfl
                obtain ⟨q1, q2, A_, c_, q3, q4⟩ := HT.out
                have HT_ := Aside0.mk ((((TdA.mk q1 q2 q3 q4).far HM.out (i := 0) (by decide) HMN.out (fun e => HMG.out (congrArg some e.symm)) (.int .i64 m'.1)).far hm1 (i := 1) (by decide) HMN.out (fun e => HMG.out (congrArg some e.symm)) (.int .i64 m'.2)).at_)
                have HX_ := Aside0.mk (blk_far (blk_far HX.out (p := ⟨gm, 0, none⟩) HMX.out (.int .i64 m'.1)) (p := ⟨gm, 1, none⟩) HMX.out (.int .i64 m'.2))
                have HM_ := Aside0.mk hm2
                clear HT HX HM hm1 hm2 q1 q2 q3 q4
                have HT := Aside0.mk HT_.out
                have HX := Aside0.mk HX_.out
                have HM := Aside0.mk HM_.out
                clear HT_ HX_ HM_
                refine hK.out _ _ (HCL.out _ (below_step HW2.out HT.out.below)) (fun hHeld => ?_)
                clear hK K
                try simp only [Act.put, List.setIfInBounds_toArray, List.set_cons_zero, List.set_cons_succ]
                refine wpAnyH_done (by kernel_rfl) ?_ _
                refine NoPanic.normal ?_
                clear hHeld
                go_wp2_with fail
                go_roundg (100 - i)
                case measure => have h1 := HK.out; have h2 := HH.out.2; omega
                case rel => exact ⟨i + 1, td.1, m', congrArg (Value.int .i64) (by first | exact HWI.out | exact HWI2.out | rfl | omega), ⟨by have h1 := HK.out; have h2 := HH.out.2; omega⟩, ⟨by have q := HI2.out.2.2; rw [HDB.out, if_pos rfl, HMM.out] at q; exact ⟨HI2.out.1, HI2.out.2.1, q⟩⟩, HT, HX, HM⟩
              exact AllReadyH.nil
            exact AllReadyH.nil
          exact AllReadyH.nil
        exact AllReadyH.nil
    case neg =>
      have x0 : wr.cell? ⟨n, 0, none⟩ = some (.string s.f0) := (blk_cell HX.out 0).trans rfl
      have x1 : wr.cell? ⟨n, 1, none⟩ = some (.string s.f1) := (blk_cell HX.out 1).trans rfl
      have HNB2 := Aside0.mk (show decide (tlt m t.low) = false from decide_eq_false HI.out.2.2.1)
      by_cases h1 : i < l0.length
      case pos =>
        have h2 : ¬ i < 100 := fun h => hgo ⟨h1, h⟩
        have d1 : decide ((i : Int) < (l0.length : Int)) = true := decide_eq_true (by omega)
        have d1n : decide (i < l0.length) = true := decide_eq_true (by omega)
        have d2 : decide ((i : Int) < 100) = false := decide_eq_false (by omega)
        have d2n : decide (i < 100) = false := decide_eq_false (by omega)
        clear h1 h2 hgo
        go_wp2_with fail
        refine (td_max wn wr g t s o HT.out).mono ?_
        rintro e w7 ⟨rfl, hb⟩
        clear x0 x1
        have HX_ := Aside0.mk (td_kept HX.out hb)
        clear HX
        have HX := Aside0.mk HX_.out
        clear HX_
        have HM_ := Aside0.mk (td_kept HM.out hb)
        clear HM
        have HM := Aside0.mk HM_.out
        clear HM_
        have HT_ := Aside0.mk (HT.out.step hb)
        clear HT
        have HT := Aside0.mk HT_.out
        clear HT_
        clear hb
        by_cases hq : qErr s o = 0
        case neg =>
          rw [maxF_bad hq]
          have e1 : (qErr s o != 0) = true := bne_iff_ne.mpr hq
          have e2 : (qErr s o == 0) = false := beq_eq_false_iff_ne.mpr hq
          obtain ⟨x, hx⟩ : ∃ x : Int × Int, (0, 0) = x := ⟨_, rfl⟩
          have HX0 := Aside0.mk hx
          rw [hx]
          clear hq hx
          go_upto_region 13 with fail
          generalize hw8 : World.alloc w7 _ = w8
          have HF := Aside0.mk (show w8.heap[w7.heap.size]? = some (.cells #[.int .i64 x.1, .int .i64 x.2] 31 (0, 0)) from by rw [← hw8]; exact blk_new _ _)
          have hb : Below w7.heap.size w7 w8 := by rw [← hw8]; exact td_alloc _ _
          clear hw8
          have HM_ := Aside0.mk (td_kept HM.out hb)
          clear HM
          have HM := Aside0.mk HM_.out
          clear HM_
          have HT_ := Aside0.mk (HT.out.step hb)
          clear HT
          have HT := Aside0.mk HT_.out
          clear HT_
          clear hb
          generalize w7.heap.size = gf at HF ⊢
          have hx := HX0.out
          subst hx
          refine wp_region_noPanic ?_
          refine wp_region_held_drew (S := (fun V => V.cell? ⟨gf, 0, none⟩ = some (.int .i64 (0, 0).1) ∧ V.cell? ⟨gf, 1, none⟩ = some (.int .i64 (0, 0).2) ∧ V.cell? ⟨gm, 0, none⟩ = some (.int .i64 m.1) ∧ V.cell? ⟨gm, 1, none⟩ = some (.int .i64 m.2))) (by kernel_rfl) ⟨(blk_cell (td_kept HF.out (below_drew1 (Below.refl _ _))) 0).trans rfl, (blk_cell (td_kept HF.out (below_drew1 (Below.refl _ _))) 1).trans rfl, (blk_cell (td_kept HM.out (below_drew1 (Below.refl _ _))) 0).trans rfl, (blk_cell (td_kept HM.out (below_drew1 (Below.refl _ _))) 1).trans rfl⟩ (fun hHeld => ?_)
          generalize hwd : World.drew _ = wd at hHeld ⊢
          have hb : Below w8.heap.size w8 wd := by rw [← hwd]; exact below_drew1 (Below.refl _ _)
          clear hwd
          have HF_ := Aside0.mk (td_kept HF.out hb)
          clear HF
          have HF := Aside0.mk HF_.out
          clear HF_
          have HT_ := Aside0.mk (HT.out.step hb)
          clear HT
          have HT := Aside0.mk HT_.out
          clear HT_
          have HM_ := Aside0.mk (td_kept HM.out hb)
          clear HM
          have HM := Aside0.mk HM_.out
          clear HM_
          clear hb
          refine wpAnyH_take (i := 0) (oi := ⟨some 54, _, _, _, _, none⟩) (v := ?v0_6) rfl (by kernel_rfl) (by kernel_rfl) (by kernel_rfl) (fun _ _ _ h => h) (Or.inl ⟨by rfl, ?hy0_6⟩) (by with_reducible assumption) ?rest0_6
          case hy0_6 => (intro V_ hSw; (try dsimp only at hSw); go_simp; (try with_reducible rfl))
          case' rest0_6 => skip
          try simp only [Act.put, List.setIfInBounds_toArray, List.set_cons_zero, List.set_cons_succ]
          refine wpAnyH_take (i := 1) (oi := ⟨some 55, _, _, _, _, none⟩) (v := ?v1_7) rfl (by kernel_rfl) (by kernel_rfl) (by kernel_rfl) (fun _ _ _ h => h) (Or.inl ⟨by rfl, ?hy1_7⟩) (by with_reducible assumption) ?rest1_7
          case hy1_7 => (intro V_ hSw; (try dsimp only at hSw); go_simp; (try with_reducible rfl))
          case' rest1_7 => skip
          try simp only [Act.put, List.setIfInBounds_toArray, List.set_cons_zero, List.set_cons_succ]
          refine wpAnyH_take (i := 2) (oi := ⟨some 56, _, _, _, _, none⟩) (v := ?v2_8) rfl (by kernel_rfl) (by kernel_rfl) (by kernel_rfl) (fun _ _ _ h => h) (Or.inl ⟨by rfl, ?hy2_8⟩) (by with_reducible assumption) ?rest2_8
          case hy2_8 => (intro V_ hSw; (try dsimp only at hSw); go_simp; (try with_reducible rfl))
          case' rest2_8 => skip
          try simp only [Act.put, List.setIfInBounds_toArray, List.set_cons_zero, List.set_cons_succ]
          refine wpAnyH_take (i := 3) (oi := ⟨some 57, _, _, _, _, some (2, true)⟩) (v := ?v3_9) rfl (by kernel_rfl) (by kernel_rfl) (by kernel_rfl) (fun _ _ _ h => h) (Or.inl ⟨by rfl, ?hy3_9⟩) (by with_reducible assumption) ?rest3_9
          case hy3_9 => (intro V_ hSw; (try dsimp only at hSw); go_simp; (try with_reducible rfl))
          case' rest3_9 => skip
          try simp only [Act.put, List.setIfInBounds_toArray, List.set_cons_zero, List.set_cons_succ]
          refine wpAnyH_take (i := 4) (oi := ⟨some 58, _, _, _, _, some (2, true)⟩) (v := ?v4_10) rfl (by kernel_rfl) (by kernel_rfl) (by kernel_rfl) (fun _ _ _ h => h) (Or.inl ⟨by rfl, ?hy4_10⟩) (by with_reducible assumption) ?rest4_10
          case hy4_10 => (intro V_ hSw; (try dsimp only at hSw); go_simp; (try with_reducible rfl))
          case' rest4_10 => skip
          try simp only [Act.put, List.setIfInBounds_toArray, List.set_cons_zero, List.set_cons_succ]
          refine wpAnyH_take (i := 5) (oi := ⟨some 59, _, _, _, _, some (2, true)⟩) (v := ?v5_11) rfl (by kernel_rfl) (by kernel_rfl) (by kernel_rfl) (fun _ _ _ h => h) (Or.inl ⟨by rfl, ?hy5_11⟩) (by with_reducible assumption) ?rest5_11
          case hy5_11 => (intro V_ hSw; (try dsimp only at hSw); go_simp; (try with_reducible rfl))
          case' rest5_11 => skip
          try simp only [Act.put, List.setIfInBounds_toArray, List.set_cons_zero, List.set_cons_succ]
          refine wpAnyH_take (i := 6) (oi := ⟨some 60, _, _, _, _, none⟩) (v := ?v6_12) rfl (by kernel_rfl) (by kernel_rfl) (by kernel_rfl) (fun _ _ _ h => h) (Or.inl ⟨by rfl, ?hy6_12⟩) (by with_reducible assumption) ?rest6_12
          case hy6_12 => (intro V_ hSw; (try dsimp only at hSw); go_simp; (try with_reducible rfl))
          case' rest6_12 => skip
          try simp only [Act.put, List.setIfInBounds_toArray, List.set_cons_zero, List.set_cons_succ]
          refine wpAnyH_take (i := 7) (oi := ⟨some 61, _, _, _, _, none⟩) (v := ?v7_13) rfl (by kernel_rfl) (by kernel_rfl) (by kernel_rfl) (fun _ _ _ h => h) (Or.inl ⟨by rfl, ?hy7_13⟩) (by with_reducible assumption) ?rest7_13
          case hy7_13 => (intro V_ hSw; (try dsimp only at hSw); go_simp; (try with_reducible rfl))
          case' rest7_13 => skip
          try simp only [Act.put, List.setIfInBounds_toArray, List.set_cons_zero, List.set_cons_succ]
          refine wpAnyH_take (i := 8) (oi := ⟨some 62, _, _, _, _, some (7, false)⟩) rfl (by kernel_rfl) (by kernel_rfl) (by kernel_rfl) (fun _ _ _ h => h) (Or.inr ⟨by rfl, rfl⟩) (by with_reducible assumption) ?_
          try simp only [Act.put, List.setIfInBounds_toArray, List.set_cons_zero, List.set_cons_succ]
          refine wpAnyH_take (i := 9) (oi := ⟨some 63, _, _, _, _, some (7, false)⟩) rfl (by kernel_rfl) (by kernel_rfl) (by kernel_rfl) (fun _ _ _ h => h) (Or.inr ⟨by rfl, rfl⟩) (by with_reducible assumption) ?_
          try simp only [Act.put, List.setIfInBounds_toArray, List.set_cons_zero, List.set_cons_succ]
          refine wpAnyH_take (i := 10) (oi := ⟨some 64, _, _, _, _, some (7, false)⟩) rfl (by kernel_rfl) (by kernel_rfl) (by kernel_rfl) (fun _ _ _ h => h) (Or.inr ⟨by rfl, rfl⟩) (by with_reducible assumption) ?_
          try simp only [Act.put, List.setIfInBounds_toArray, List.set_cons_zero, List.set_cons_succ]
          refine wpAnyH_take (i := 11) (oi := ⟨some 65, _, _, _, _, some (10, true)⟩) rfl (by kernel_rfl) (by kernel_rfl) (by kernel_rfl) (fun _ _ _ h => h) (Or.inr ⟨by rfl, rfl⟩) (by with_reducible assumption) ?_
          try simp only [Act.put, List.setIfInBounds_toArray, List.set_cons_zero, List.set_cons_succ]
          refine wpAnyH_take (i := 12) (oi := ⟨some 66, _, _, _, _, some (10, true)⟩) rfl (by kernel_rfl) (by kernel_rfl) (by kernel_rfl) (fun _ _ _ h => h) (Or.inr ⟨by rfl, rfl⟩) (by with_reducible assumption) ?_
          try simp only [Act.put, List.setIfInBounds_toArray, List.set_cons_zero, List.set_cons_succ]
          refine wpAnyH_take (i := 13) (oi := ⟨some 67, _, _, _, _, some (10, true)⟩) rfl (by kernel_rfl) (by kernel_rfl) (by kernel_rfl) (fun _ _ _ h => h) (Or.inr ⟨by rfl, rfl⟩) (by with_reducible assumption) ?_
          try simp only [Act.put, List.setIfInBounds_toArray, List.set_cons_zero, List.set_cons_succ]
          refine wpAnyH_take (i := 14) (oi := ⟨some 68, _, _, _, _, some (7, false)⟩) rfl (by kernel_rfl) (by kernel_rfl) (by kernel_rfl) (fun _ _ _ h => h) (Or.inr ⟨by rfl, rfl⟩) (by with_reducible assumption) ?_
          try simp only [Act.put, List.setIfInBounds_toArray, List.set_cons_zero, List.set_cons_succ]
          refine wpAnyH_take (i := 15) (oi := ⟨some 69, _, _, _, _, none⟩) (v := ?v15_21) rfl (by kernel_rfl) (by kernel_rfl) (by kernel_rfl) (fun _ _ _ h => h) (Or.inl ⟨by rfl, ?hy15_21⟩) (by with_reducible assumption) ?rest15_21
          case hy15_21 => (intro V_ hSw; (try dsimp only at hSw); go_simp; (try with_reducible rfl))
          case' rest15_21 => skip
          try simp only [Act.put, List.setIfInBounds_toArray, List.set_cons_zero, List.set_cons_succ]
          refine wpAnyH_take (i := 16) (oi := ⟨some 70, _, _, _, _, none⟩) (v := ?v16_22) rfl (by kernel_rfl) (by kernel_rfl) (by kernel_rfl) (fun _ _ _ h => h) (Or.inl ⟨by rfl, ?hy16_22⟩) (by with_reducible assumption) ?rest16_22
          case hy16_22 => (intro V_ hSw; (try dsimp only at hSw); go_simp; (try with_reducible rfl))
          case' rest16_22 => skip
          try simp only [Act.put, List.setIfInBounds_toArray, List.set_cons_zero, List.set_cons_succ]
          refine wpAnyH_take (i := 17) (oi := ⟨some 71, _, _, _, _, some (16, true)⟩) (v := ?v17_23) rfl (by kernel_rfl) (by kernel_rfl) (by kernel_rfl) (fun _ _ _ h => h) (Or.inl ⟨by rfl, ?hy17_23⟩) (by with_reducible assumption) ?rest17_23
          case hy17_23 => (intro V_ hSw; (try dsimp only at hSw); go_simp; (try with_reducible rfl))
          case' rest17_23 => skip
          try simp only [Act.put, List.setIfInBounds_toArray, List.set_cons_zero, List.set_cons_succ]
          refine wpAnyH_take (i := 18) (oi := ⟨some 72, _, _, _, _, some (16, true)⟩) (v := ?v18_24) rfl (by kernel_rfl) (by kernel_rfl) (by kernel_rfl) (fun _ _ _ h => h) (Or.inl ⟨by rfl, ?hy18_24⟩) (by with_reducible assumption) ?rest18_24
          case hy18_24 => (intro V_ hSw; (try dsimp only at hSw); go_simp; (try with_reducible rfl))
          case' rest18_24 => skip
          try simp only [Act.put, List.setIfInBounds_toArray, List.set_cons_zero, List.set_cons_succ]
          refine wpAnyH_ready (rs := [19]) (by kernel_rfl) (by simp) ?_
          refine AllReadyH.cons (o := ⟨some 73, _, _, _, _, some (16, true)⟩) rfl (fun K hK => ?_) ?_
          · go_simp
            refine (td_low wn _ g t HT.out).mono ?_
            rintro e wb ⟨rfl, hb⟩
            have HF_ := Aside0.mk (td_kept HF.out hb)
            clear HF
            have HF := Aside0.mk HF_.out
            clear HF_
            have HT_ := Aside0.mk (HT.out.step hb)
            clear HT
            have HT := Aside0.mk HT_.out
            clear HT_
            have HM_ := Aside0.mk (td_kept HM.out hb)
            clear HM
            have HM := Aside0.mk HM_.out
            clear HM_
            clear hb
            refine hK.out _ _ ⟨(blk_cell (td_kept HF.out (Below.refl _ _)) 0).trans rfl, (blk_cell (td_kept HF.out (Below.refl _ _)) 1).trans rfl, (blk_cell (td_kept HM.out (Below.refl _ _)) 0).trans rfl, (blk_cell (td_kept HM.out (Below.refl _ _)) 1).trans rfl⟩ (fun hHeld => ?_)
            clear hK K
            try simp only [Act.put, List.setIfInBounds_toArray, List.set_cons_zero, List.set_cons_succ]
            refine wpAnyH_ready (rs := [20]) (by kernel_rfl) (by simp) ?_
            refine AllReadyH.cons (o := ⟨some 74, _, _, _, _, some (16, true)⟩) rfl (fun K hK => ?_) ?_
            · go_simp
              refine (td_notBelow m t.low _).mono ?_
              rintro e wc ⟨rfl, hb⟩
              have HF_ := Aside0.mk (td_kept HF.out hb)
              clear HF
              have HF := Aside0.mk HF_.out
              clear HF_
              have HT_ := Aside0.mk (HT.out.step hb)
              clear HT
              have HT := Aside0.mk HT_.out
              clear HT_
              have HM_ := Aside0.mk (td_kept HM.out hb)
              clear HM
              have HM := Aside0.mk HM_.out
              clear HM_
              clear hb
              rw [HNB2.out]
              have HBZ := Aside0.mk (below_step HW2.out HT.out.below)
              refine hK.out _ _ ⟨(blk_cell (td_kept HF.out (Below.refl _ _)) 0).trans rfl, (blk_cell (td_kept HF.out (Below.refl _ _)) 1).trans rfl, (blk_cell (td_kept HM.out (Below.refl _ _)) 0).trans rfl, (blk_cell (td_kept HM.out (Below.refl _ _)) 1).trans rfl⟩ (fun hHeld => ?_)
              clear hK K
              try simp only [Act.put, List.setIfInBounds_toArray, List.set_cons_zero, List.set_cons_succ]
              refine wpAnyH_take (i := 21) (oi := ⟨some 75, _, _, _, _, none⟩) (v := ?v21_25) rfl (by kernel_rfl) (by kernel_rfl) (by kernel_rfl) (fun _ _ _ h => h) (Or.inl ⟨by rfl, ?hy21_25⟩) (by with_reducible assumption) ?rest21_25
              case hy21_25 => (intro V_ hSw; (try dsimp only at hSw); go_simp; (try with_reducible rfl))
              case' rest21_25 => skip
              try simp only [Act.put, List.setIfInBounds_toArray, List.set_cons_zero, List.set_cons_succ]
              refine wpAnyH_take (i := 22) (oi := ⟨some 6, _, _, _, _, none⟩) (v := ?v22_26) rfl (by kernel_rfl) (by kernel_rfl) (by kernel_rfl) (fun _ _ _ h => h) (Or.inl ⟨by rfl, ?hy22_26⟩) (by with_reducible assumption) ?rest22_26
              case hy22_26 => (intro V_ hSw; (try dsimp only at hSw); go_simp; (try with_reducible rfl))
              case' rest22_26 => skip
              try simp only [Act.put, List.setIfInBounds_toArray, List.set_cons_zero, List.set_cons_succ]
              refine wpAnyH_done (by kernel_rfl) ?_ _
              refine NoPanic.normal ?_
              go_wp2_with fail
              go_ret
              exact ⟨rfl, HBZ.out⟩
            exact AllReadyH.nil
          exact AllReadyH.nil

        case pos =>
          rw [maxF_ok hq]
          clear hq
          obtain ⟨x, hm⟩ : ∃ x, Td.max (asks s o) t.low t.l = x := ⟨_, rfl⟩
          have HNB1 := Aside0.mk (show decide (tlt m x) = false from decide_eq_false (by rw [← hm]; exact Td.below_max HI.out.2.2 _))
          rw [hm]
          clear hm
          go_upto_region 13 with fail
          generalize hw8 : World.alloc w7 _ = w8
          have HF := Aside0.mk (show w8.heap[w7.heap.size]? = some (.cells #[.int .i64 x.1, .int .i64 x.2] 31 (0, 0)) from by rw [← hw8]; exact blk_new _ _)
          have hb : Below w7.heap.size w7 w8 := by rw [← hw8]; exact td_alloc _ _
          clear hw8
          have HM_ := Aside0.mk (td_kept HM.out hb)
          clear HM
          have HM := Aside0.mk HM_.out
          clear HM_
          have HT_ := Aside0.mk (HT.out.step hb)
          clear HT
          have HT := Aside0.mk HT_.out
          clear HT_
          clear hb
          generalize w7.heap.size = gf at HF ⊢
          refine wp_region_noPanic ?_
          refine wp_region_held_drew (S := (fun V => V.cell? ⟨gf, 0, none⟩ = some (.int .i64 x.1) ∧ V.cell? ⟨gf, 1, none⟩ = some (.int .i64 x.2) ∧ V.cell? ⟨gm, 0, none⟩ = some (.int .i64 m.1) ∧ V.cell? ⟨gm, 1, none⟩ = some (.int .i64 m.2))) (by kernel_rfl) ⟨(blk_cell (td_kept HF.out (below_drew1 (Below.refl _ _))) 0).trans rfl, (blk_cell (td_kept HF.out (below_drew1 (Below.refl _ _))) 1).trans rfl, (blk_cell (td_kept HM.out (below_drew1 (Below.refl _ _))) 0).trans rfl, (blk_cell (td_kept HM.out (below_drew1 (Below.refl _ _))) 1).trans rfl⟩ (fun hHeld => ?_)
          generalize hwd : World.drew _ = wd at hHeld ⊢
          have hb : Below w8.heap.size w8 wd := by rw [← hwd]; exact below_drew1 (Below.refl _ _)
          clear hwd
          have HF_ := Aside0.mk (td_kept HF.out hb)
          clear HF
          have HF := Aside0.mk HF_.out
          clear HF_
          have HT_ := Aside0.mk (HT.out.step hb)
          clear HT
          have HT := Aside0.mk HT_.out
          clear HT_
          have HM_ := Aside0.mk (td_kept HM.out hb)
          clear HM
          have HM := Aside0.mk HM_.out
          clear HM_
          clear hb
          refine wpAnyH_take (i := 0) (oi := ⟨some 54, _, _, _, _, none⟩) (v := ?v0_27) rfl (by kernel_rfl) (by kernel_rfl) (by kernel_rfl) (fun _ _ _ h => h) (Or.inl ⟨by rfl, ?hy0_27⟩) (by with_reducible assumption) ?rest0_27
          case hy0_27 => (intro V_ hSw; (try dsimp only at hSw); go_simp; (try with_reducible rfl))
          case' rest0_27 => skip
          try simp only [Act.put, List.setIfInBounds_toArray, List.set_cons_zero, List.set_cons_succ]
          refine wpAnyH_take (i := 1) (oi := ⟨some 55, _, _, _, _, none⟩) (v := ?v1_28) rfl (by kernel_rfl) (by kernel_rfl) (by kernel_rfl) (fun _ _ _ h => h) (Or.inl ⟨by rfl, ?hy1_28⟩) (by with_reducible assumption) ?rest1_28
          case hy1_28 => (intro V_ hSw; (try dsimp only at hSw); go_simp; (try with_reducible rfl))
          case' rest1_28 => skip
          try simp only [Act.put, List.setIfInBounds_toArray, List.set_cons_zero, List.set_cons_succ]
          refine wpAnyH_take (i := 2) (oi := ⟨some 56, _, _, _, _, none⟩) (v := ?v2_29) rfl (by kernel_rfl) (by kernel_rfl) (by kernel_rfl) (fun _ _ _ h => h) (Or.inl ⟨by rfl, ?hy2_29⟩) (by with_reducible assumption) ?rest2_29
          case hy2_29 => (intro V_ hSw; (try dsimp only at hSw); go_simp; (try with_reducible rfl))
          case' rest2_29 => skip
          try simp only [Act.put, List.setIfInBounds_toArray, List.set_cons_zero, List.set_cons_succ]
          refine wpAnyH_take (i := 3) (oi := ⟨some 57, _, _, _, _, some (2, true)⟩) rfl (by kernel_rfl) (by kernel_rfl) (by kernel_rfl) (fun _ _ _ h => h) (Or.inr ⟨by rfl, rfl⟩) (by with_reducible assumption) ?_
          try simp only [Act.put, List.setIfInBounds_toArray, List.set_cons_zero, List.set_cons_succ]
          refine wpAnyH_take (i := 4) (oi := ⟨some 58, _, _, _, _, some (2, true)⟩) rfl (by kernel_rfl) (by kernel_rfl) (by kernel_rfl) (fun _ _ _ h => h) (Or.inr ⟨by rfl, rfl⟩) (by with_reducible assumption) ?_
          try simp only [Act.put, List.setIfInBounds_toArray, List.set_cons_zero, List.set_cons_succ]
          refine wpAnyH_take (i := 5) (oi := ⟨some 59, _, _, _, _, some (2, true)⟩) rfl (by kernel_rfl) (by kernel_rfl) (by kernel_rfl) (fun _ _ _ h => h) (Or.inr ⟨by rfl, rfl⟩) (by with_reducible assumption) ?_
          try simp only [Act.put, List.setIfInBounds_toArray, List.set_cons_zero, List.set_cons_succ]
          refine wpAnyH_take (i := 6) (oi := ⟨some 60, _, _, _, _, none⟩) (v := ?v6_33) rfl (by kernel_rfl) (by kernel_rfl) (by kernel_rfl) (fun _ _ _ h => h) (Or.inl ⟨by rfl, ?hy6_33⟩) (by with_reducible assumption) ?rest6_33
          case hy6_33 => (intro V_ hSw; (try dsimp only at hSw); go_simp; (try with_reducible rfl))
          case' rest6_33 => skip
          try simp only [Act.put, List.setIfInBounds_toArray, List.set_cons_zero, List.set_cons_succ]
          refine wpAnyH_take (i := 7) (oi := ⟨some 61, _, _, _, _, none⟩) (v := ?v7_34) rfl (by kernel_rfl) (by kernel_rfl) (by kernel_rfl) (fun _ _ _ h => h) (Or.inl ⟨by rfl, ?hy7_34⟩) (by with_reducible assumption) ?rest7_34
          case hy7_34 => (intro V_ hSw; (try dsimp only at hSw); go_simp; (try with_reducible rfl))
          case' rest7_34 => skip
          try simp only [Act.put, List.setIfInBounds_toArray, List.set_cons_zero, List.set_cons_succ]
          refine wpAnyH_take (i := 8) (oi := ⟨some 62, _, _, _, _, some (7, false)⟩) (v := ?v8_35) rfl (by kernel_rfl) (by kernel_rfl) (by kernel_rfl) (fun _ _ _ h => h) (Or.inl ⟨by rfl, ?hy8_35⟩) (by with_reducible assumption) ?rest8_35
          case hy8_35 => (intro V_ hSw; (try dsimp only at hSw); go_simp; (try with_reducible rfl))
          case' rest8_35 => skip
          try simp only [Act.put, List.setIfInBounds_toArray, List.set_cons_zero, List.set_cons_succ]
          refine wpAnyH_take (i := 9) (oi := ⟨some 63, _, _, _, _, some (7, false)⟩) (v := ?v9_36) rfl (by kernel_rfl) (by kernel_rfl) (by kernel_rfl) (fun _ _ _ h => h) (Or.inl ⟨by rfl, ?hy9_36⟩) (by with_reducible assumption) ?rest9_36
          case hy9_36 => (intro V_ hSw; (try dsimp only at hSw); go_simp; (try with_reducible rfl))
          case' rest9_36 => skip
          try simp only [Act.put, List.setIfInBounds_toArray, List.set_cons_zero, List.set_cons_succ]
          refine wpAnyH_take (i := 10) (oi := ⟨some 64, _, _, _, _, some (7, false)⟩) (v := ?v10_37) rfl (by kernel_rfl) (by kernel_rfl) (by kernel_rfl) (fun _ _ _ h => h) (Or.inl ⟨by rfl, ?hy10_37⟩) (by with_reducible assumption) ?rest10_37
          case hy10_37 => (intro V_ hSw; (try dsimp only at hSw); go_simp; (try with_reducible rfl))
          case' rest10_37 => skip
          try simp only [Act.put, List.setIfInBounds_toArray, List.set_cons_zero, List.set_cons_succ]
          refine wpAnyH_take (i := 11) (oi := ⟨some 65, _, _, _, _, some (10, true)⟩) (v := ?v11_38) rfl (by kernel_rfl) (by kernel_rfl) (by kernel_rfl) (fun _ _ _ h => h) (Or.inl ⟨by rfl, ?hy11_38⟩) (by with_reducible assumption) ?rest11_38
          case hy11_38 => (intro V_ hSw; (try dsimp only at hSw); go_simp; (try with_reducible rfl))
          case' rest11_38 => skip
          try simp only [Act.put, List.setIfInBounds_toArray, List.set_cons_zero, List.set_cons_succ]
          refine wpAnyH_take (i := 12) (oi := ⟨some 66, _, _, _, _, some (10, true)⟩) (v := ?v12_39) rfl (by kernel_rfl) (by kernel_rfl) (by kernel_rfl) (fun _ _ _ h => h) (Or.inl ⟨by rfl, ?hy12_39⟩) (by with_reducible assumption) ?rest12_39
          case hy12_39 => (intro V_ hSw; (try dsimp only at hSw); go_simp; (try with_reducible rfl))
          case' rest12_39 => skip
          try simp only [Act.put, List.setIfInBounds_toArray, List.set_cons_zero, List.set_cons_succ]
          refine wpAnyH_ready (rs := [13]) (by kernel_rfl) (by simp) ?_
          refine AllReadyH.cons (o := ⟨some 67, _, _, _, _, some (10, true)⟩) rfl (fun K hK => ?_) ?_
          · go_simp
            refine (td_notBelow m x _).mono ?_
            rintro e wa ⟨rfl, hb⟩
            have HF_ := Aside0.mk (td_kept HF.out hb)
            clear HF
            have HF := Aside0.mk HF_.out
            clear HF_
            have HT_ := Aside0.mk (HT.out.step hb)
            clear HT
            have HT := Aside0.mk HT_.out
            clear HT_
            have HM_ := Aside0.mk (td_kept HM.out hb)
            clear HM
            have HM := Aside0.mk HM_.out
            clear HM_
            clear hb
            rw [HNB1.out]
            refine hK.out _ _ ⟨(blk_cell (td_kept HF.out (Below.refl _ _)) 0).trans rfl, (blk_cell (td_kept HF.out (Below.refl _ _)) 1).trans rfl, (blk_cell (td_kept HM.out (Below.refl _ _)) 0).trans rfl, (blk_cell (td_kept HM.out (Below.refl _ _)) 1).trans rfl⟩ (fun hHeld => ?_)
            clear hK K
            try simp only [Act.put, List.setIfInBounds_toArray, List.set_cons_zero, List.set_cons_succ]
            refine wpAnyH_take (i := 14) (oi := ⟨some 68, _, _, _, _, some (7, false)⟩) (v := ?v14_40) rfl (by kernel_rfl) (by kernel_rfl) (by kernel_rfl) (fun _ _ _ h => h) (Or.inl ⟨by rfl, ?hy14_40⟩) (by with_reducible assumption) ?rest14_40
            case hy14_40 => (intro V_ hSw; (try dsimp only at hSw); go_simp; (try with_reducible rfl))
            case' rest14_40 => skip
            try simp only [Act.put, List.setIfInBounds_toArray, List.set_cons_zero, List.set_cons_succ]
            refine wpAnyH_take (i := 15) (oi := ⟨some 69, _, _, _, _, none⟩) (v := ?v15_41) rfl (by kernel_rfl) (by kernel_rfl) (by kernel_rfl) (fun _ _ _ h => h) (Or.inl ⟨by rfl, ?hy15_41⟩) (by with_reducible assumption) ?rest15_41
            case hy15_41 => (intro V_ hSw; (try dsimp only at hSw); go_simp; (try with_reducible rfl))
            case' rest15_41 => skip
            try simp only [Act.put, List.setIfInBounds_toArray, List.set_cons_zero, List.set_cons_succ]
            refine wpAnyH_take (i := 16) (oi := ⟨some 70, _, _, _, _, none⟩) (v := ?v16_42) rfl (by kernel_rfl) (by kernel_rfl) (by kernel_rfl) (fun _ _ _ h => h) (Or.inl ⟨by rfl, ?hy16_42⟩) (by with_reducible assumption) ?rest16_42
            case hy16_42 => (intro V_ hSw; (try dsimp only at hSw); go_simp; (try with_reducible rfl))
            case' rest16_42 => skip
            try simp only [Act.put, List.setIfInBounds_toArray, List.set_cons_zero, List.set_cons_succ]
            refine wpAnyH_take (i := 17) (oi := ⟨some 71, _, _, _, _, some (16, true)⟩) (v := ?v17_43) rfl (by kernel_rfl) (by kernel_rfl) (by kernel_rfl) (fun _ _ _ h => h) (Or.inl ⟨by rfl, ?hy17_43⟩) (by with_reducible assumption) ?rest17_43
            case hy17_43 => (intro V_ hSw; (try dsimp only at hSw); go_simp; (try with_reducible rfl))
            case' rest17_43 => skip
            try simp only [Act.put, List.setIfInBounds_toArray, List.set_cons_zero, List.set_cons_succ]
            refine wpAnyH_take (i := 18) (oi := ⟨some 72, _, _, _, _, some (16, true)⟩) (v := ?v18_44) rfl (by kernel_rfl) (by kernel_rfl) (by kernel_rfl) (fun _ _ _ h => h) (Or.inl ⟨by rfl, ?hy18_44⟩) (by with_reducible assumption) ?rest18_44
            case hy18_44 => (intro V_ hSw; (try dsimp only at hSw); go_simp; (try with_reducible rfl))
            case' rest18_44 => skip
            try simp only [Act.put, List.setIfInBounds_toArray, List.set_cons_zero, List.set_cons_succ]
            refine wpAnyH_ready (rs := [19]) (by kernel_rfl) (by simp) ?_
            refine AllReadyH.cons (o := ⟨some 73, _, _, _, _, some (16, true)⟩) rfl (fun K hK => ?_) ?_
            · go_simp
              refine (td_low wn _ g t HT.out).mono ?_
              rintro e wb ⟨rfl, hb⟩
              have HF_ := Aside0.mk (td_kept HF.out hb)
              clear HF
              have HF := Aside0.mk HF_.out
              clear HF_
              have HT_ := Aside0.mk (HT.out.step hb)
              clear HT
              have HT := Aside0.mk HT_.out
              clear HT_
              have HM_ := Aside0.mk (td_kept HM.out hb)
              clear HM
              have HM := Aside0.mk HM_.out
              clear HM_
              clear hb
              refine hK.out _ _ ⟨(blk_cell (td_kept HF.out (Below.refl _ _)) 0).trans rfl, (blk_cell (td_kept HF.out (Below.refl _ _)) 1).trans rfl, (blk_cell (td_kept HM.out (Below.refl _ _)) 0).trans rfl, (blk_cell (td_kept HM.out (Below.refl _ _)) 1).trans rfl⟩ (fun hHeld => ?_)
              clear hK K
              try simp only [Act.put, List.setIfInBounds_toArray, List.set_cons_zero, List.set_cons_succ]
              refine wpAnyH_ready (rs := [20]) (by kernel_rfl) (by simp) ?_
              refine AllReadyH.cons (o := ⟨some 74, _, _, _, _, some (16, true)⟩) rfl (fun K hK => ?_) ?_
              · go_simp
                refine (td_notBelow m t.low _).mono ?_
                rintro e wc ⟨rfl, hb⟩
                have HF_ := Aside0.mk (td_kept HF.out hb)
                clear HF
                have HF := Aside0.mk HF_.out
                clear HF_
                have HT_ := Aside0.mk (HT.out.step hb)
                clear HT
                have HT := Aside0.mk HT_.out
                clear HT_
                have HM_ := Aside0.mk (td_kept HM.out hb)
                clear HM
                have HM := Aside0.mk HM_.out
                clear HM_
                clear hb
                rw [HNB2.out]
                have HBZ := Aside0.mk (below_step HW2.out HT.out.below)
                refine hK.out _ _ ⟨(blk_cell (td_kept HF.out (Below.refl _ _)) 0).trans rfl, (blk_cell (td_kept HF.out (Below.refl _ _)) 1).trans rfl, (blk_cell (td_kept HM.out (Below.refl _ _)) 0).trans rfl, (blk_cell (td_kept HM.out (Below.refl _ _)) 1).trans rfl⟩ (fun hHeld => ?_)
                clear hK K
                try simp only [Act.put, List.setIfInBounds_toArray, List.set_cons_zero, List.set_cons_succ]
                refine wpAnyH_take (i := 21) (oi := ⟨some 75, _, _, _, _, none⟩) (v := ?v21_45) rfl (by kernel_rfl) (by kernel_rfl) (by kernel_rfl) (fun _ _ _ h => h) (Or.inl ⟨by rfl, ?hy21_45⟩) (by with_reducible assumption) ?rest21_45
                case hy21_45 => (intro V_ hSw; (try dsimp only at hSw); go_simp; (try with_reducible rfl))
                case' rest21_45 => skip
                try simp only [Act.put, List.setIfInBounds_toArray, List.set_cons_zero, List.set_cons_succ]
                refine wpAnyH_take (i := 22) (oi := ⟨some 6, _, _, _, _, none⟩) (v := ?v22_46) rfl (by kernel_rfl) (by kernel_rfl) (by kernel_rfl) (fun _ _ _ h => h) (Or.inl ⟨by rfl, ?hy22_46⟩) (by with_reducible assumption) ?rest22_46
                case hy22_46 => (intro V_ hSw; (try dsimp only at hSw); go_simp; (try with_reducible rfl))
                case' rest22_46 => skip
                try simp only [Act.put, List.setIfInBounds_toArray, List.set_cons_zero, List.set_cons_succ]
                refine wpAnyH_done (by kernel_rfl) ?_ _
                refine NoPanic.normal ?_
                go_wp2_with fail
                go_ret
                exact ⟨rfl, HBZ.out⟩
              exact AllReadyH.nil
            exact AllReadyH.nil
          exact AllReadyH.nil

      case neg =>
        have d1 : decide ((i : Int) < (l0.length : Int)) = false := decide_eq_false (by omega)
        have d1n : decide (i < l0.length) = false := decide_eq_false (by omega)
        clear h1 hgo
        go_wp2_with fail
        refine (td_max wn wr g t s o HT.out).mono ?_
        rintro e w7 ⟨rfl, hb⟩
        clear x0 x1
        have HX_ := Aside0.mk (td_kept HX.out hb)
        clear HX
        have HX := Aside0.mk HX_.out
        clear HX_
        have HM_ := Aside0.mk (td_kept HM.out hb)
        clear HM
        have HM := Aside0.mk HM_.out
        clear HM_
        have HT_ := Aside0.mk (HT.out.step hb)
        clear HT
        have HT := Aside0.mk HT_.out
        clear HT_
        clear hb
        by_cases hq : qErr s o = 0
        case neg =>
          rw [maxF_bad hq]
          have e1 : (qErr s o != 0) = true := bne_iff_ne.mpr hq
          have e2 : (qErr s o == 0) = false := beq_eq_false_iff_ne.mpr hq
          obtain ⟨x, hx⟩ : ∃ x : Int × Int, (0, 0) = x := ⟨_, rfl⟩
          have HX0 := Aside0.mk hx
          rw [hx]
          clear hq hx
          go_upto_region 13 with fail
          generalize hw8 : World.alloc w7 _ = w8
          have HF := Aside0.mk (show w8.heap[w7.heap.size]? = some (.cells #[.int .i64 x.1, .int .i64 x.2] 31 (0, 0)) from by rw [← hw8]; exact blk_new _ _)
          have hb : Below w7.heap.size w7 w8 := by rw [← hw8]; exact td_alloc _ _
          clear hw8
          have HM_ := Aside0.mk (td_kept HM.out hb)
          clear HM
          have HM := Aside0.mk HM_.out
          clear HM_
          have HT_ := Aside0.mk (HT.out.step hb)
          clear HT
          have HT := Aside0.mk HT_.out
          clear HT_
          clear hb
          generalize w7.heap.size = gf at HF ⊢
          have hx := HX0.out
          subst hx
          refine wp_region_noPanic ?_
          refine wp_region_held_drew (S := (fun V => V.cell? ⟨gf, 0, none⟩ = some (.int .i64 (0, 0).1) ∧ V.cell? ⟨gf, 1, none⟩ = some (.int .i64 (0, 0).2) ∧ V.cell? ⟨gm, 0, none⟩ = some (.int .i64 m.1) ∧ V.cell? ⟨gm, 1, none⟩ = some (.int .i64 m.2))) (by kernel_rfl) ⟨(blk_cell (td_kept HF.out (below_drew1 (Below.refl _ _))) 0).trans rfl, (blk_cell (td_kept HF.out (below_drew1 (Below.refl _ _))) 1).trans rfl, (blk_cell (td_kept HM.out (below_drew1 (Below.refl _ _))) 0).trans rfl, (blk_cell (td_kept HM.out (below_drew1 (Below.refl _ _))) 1).trans rfl⟩ (fun hHeld => ?_)
          generalize hwd : World.drew _ = wd at hHeld ⊢
          have hb : Below w8.heap.size w8 wd := by rw [← hwd]; exact below_drew1 (Below.refl _ _)
          clear hwd
          have HF_ := Aside0.mk (td_kept HF.out hb)
          clear HF
          have HF := Aside0.mk HF_.out
          clear HF_
          have HT_ := Aside0.mk (HT.out.step hb)
          clear HT
          have HT := Aside0.mk HT_.out
          clear HT_
          have HM_ := Aside0.mk (td_kept HM.out hb)
          clear HM
          have HM := Aside0.mk HM_.out
          clear HM_
          clear hb
          refine wpAnyH_take (i := 0) (oi := ⟨some 54, _, _, _, _, none⟩) (v := ?v0_47) rfl (by kernel_rfl) (by kernel_rfl) (by kernel_rfl) (fun _ _ _ h => h) (Or.inl ⟨by rfl, ?hy0_47⟩) (by with_reducible assumption) ?rest0_47
          case hy0_47 => (intro V_ hSw; (try dsimp only at hSw); go_simp; (try with_reducible rfl))
          case' rest0_47 => skip
          try simp only [Act.put, List.setIfInBounds_toArray, List.set_cons_zero, List.set_cons_succ]
          refine wpAnyH_take (i := 1) (oi := ⟨some 55, _, _, _, _, none⟩) (v := ?v1_48) rfl (by kernel_rfl) (by kernel_rfl) (by kernel_rfl) (fun _ _ _ h => h) (Or.inl ⟨by rfl, ?hy1_48⟩) (by with_reducible assumption) ?rest1_48
          case hy1_48 => (intro V_ hSw; (try dsimp only at hSw); go_simp; (try with_reducible rfl))
          case' rest1_48 => skip
          try simp only [Act.put, List.setIfInBounds_toArray, List.set_cons_zero, List.set_cons_succ]
          refine wpAnyH_take (i := 2) (oi := ⟨some 56, _, _, _, _, none⟩) (v := ?v2_49) rfl (by kernel_rfl) (by kernel_rfl) (by kernel_rfl) (fun _ _ _ h => h) (Or.inl ⟨by rfl, ?hy2_49⟩) (by with_reducible assumption) ?rest2_49
          case hy2_49 => (intro V_ hSw; (try dsimp only at hSw); go_simp; (try with_reducible rfl))
          case' rest2_49 => skip
          try simp only [Act.put, List.setIfInBounds_toArray, List.set_cons_zero, List.set_cons_succ]
          refine wpAnyH_take (i := 3) (oi := ⟨some 57, _, _, _, _, some (2, true)⟩) (v := ?v3_50) rfl (by kernel_rfl) (by kernel_rfl) (by kernel_rfl) (fun _ _ _ h => h) (Or.inl ⟨by rfl, ?hy3_50⟩) (by with_reducible assumption) ?rest3_50
          case hy3_50 => (intro V_ hSw; (try dsimp only at hSw); go_simp; (try with_reducible rfl))
          case' rest3_50 => skip
          try simp only [Act.put, List.setIfInBounds_toArray, List.set_cons_zero, List.set_cons_succ]
          refine wpAnyH_take (i := 4) (oi := ⟨some 58, _, _, _, _, some (2, true)⟩) (v := ?v4_51) rfl (by kernel_rfl) (by kernel_rfl) (by kernel_rfl) (fun _ _ _ h => h) (Or.inl ⟨by rfl, ?hy4_51⟩) (by with_reducible assumption) ?rest4_51
          case hy4_51 => (intro V_ hSw; (try dsimp only at hSw); go_simp; (try with_reducible rfl))
          case' rest4_51 => skip
          try simp only [Act.put, List.setIfInBounds_toArray, List.set_cons_zero, List.set_cons_succ]
          refine wpAnyH_take (i := 5) (oi := ⟨some 59, _, _, _, _, some (2, true)⟩) (v := ?v5_52) rfl (by kernel_rfl) (by kernel_rfl) (by kernel_rfl) (fun _ _ _ h => h) (Or.inl ⟨by rfl, ?hy5_52⟩) (by with_reducible assumption) ?rest5_52
          case hy5_52 => (intro V_ hSw; (try dsimp only at hSw); go_simp; (try with_reducible rfl))
          case' rest5_52 => skip
          try simp only [Act.put, List.setIfInBounds_toArray, List.set_cons_zero, List.set_cons_succ]
          refine wpAnyH_take (i := 6) (oi := ⟨some 60, _, _, _, _, none⟩) (v := ?v6_53) rfl (by kernel_rfl) (by kernel_rfl) (by kernel_rfl) (fun _ _ _ h => h) (Or.inl ⟨by rfl, ?hy6_53⟩) (by with_reducible assumption) ?rest6_53
          case hy6_53 => (intro V_ hSw; (try dsimp only at hSw); go_simp; (try with_reducible rfl))
          case' rest6_53 => skip
          try simp only [Act.put, List.setIfInBounds_toArray, List.set_cons_zero, List.set_cons_succ]
          refine wpAnyH_take (i := 7) (oi := ⟨some 61, _, _, _, _, none⟩) (v := ?v7_54) rfl (by kernel_rfl) (by kernel_rfl) (by kernel_rfl) (fun _ _ _ h => h) (Or.inl ⟨by rfl, ?hy7_54⟩) (by with_reducible assumption) ?rest7_54
          case hy7_54 => (intro V_ hSw; (try dsimp only at hSw); go_simp; (try with_reducible rfl))
          case' rest7_54 => skip
          try simp only [Act.put, List.setIfInBounds_toArray, List.set_cons_zero, List.set_cons_succ]
          refine wpAnyH_take (i := 8) (oi := ⟨some 62, _, _, _, _, some (7, false)⟩) rfl (by kernel_rfl) (by kernel_rfl) (by kernel_rfl) (fun _ _ _ h => h) (Or.inr ⟨by rfl, rfl⟩) (by with_reducible assumption) ?_
          try simp only [Act.put, List.setIfInBounds_toArray, List.set_cons_zero, List.set_cons_succ]
          refine wpAnyH_take (i := 9) (oi := ⟨some 63, _, _, _, _, some (7, false)⟩) rfl (by kernel_rfl) (by kernel_rfl) (by kernel_rfl) (fun _ _ _ h => h) (Or.inr ⟨by rfl, rfl⟩) (by with_reducible assumption) ?_
          try simp only [Act.put, List.setIfInBounds_toArray, List.set_cons_zero, List.set_cons_succ]
          refine wpAnyH_take (i := 10) (oi := ⟨some 64, _, _, _, _, some (7, false)⟩) rfl (by kernel_rfl) (by kernel_rfl) (by kernel_rfl) (fun _ _ _ h => h) (Or.inr ⟨by rfl, rfl⟩) (by with_reducible assumption) ?_
          try simp only [Act.put, List.setIfInBounds_toArray, List.set_cons_zero, List.set_cons_succ]
          refine wpAnyH_take (i := 11) (oi := ⟨some 65, _, _, _, _, some (10, true)⟩) rfl (by kernel_rfl) (by kernel_rfl) (by kernel_rfl) (fun _ _ _ h => h) (Or.inr ⟨by rfl, rfl⟩) (by with_reducible assumption) ?_
          try simp only [Act.put, List.setIfInBounds_toArray, List.set_cons_zero, List.set_cons_succ]
          refine wpAnyH_take (i := 12) (oi := ⟨some 66, _, _, _, _, some (10, true)⟩) rfl (by kernel_rfl) (by kernel_rfl) (by kernel_rfl) (fun _ _ _ h => h) (Or.inr ⟨by rfl, rfl⟩) (by with_reducible assumption) ?_
          try simp only [Act.put, List.setIfInBounds_toArray, List.set_cons_zero, List.set_cons_succ]
          refine wpAnyH_take (i := 13) (oi := ⟨some 67, _, _, _, _, some (10, true)⟩) rfl (by kernel_rfl) (by kernel_rfl) (by kernel_rfl) (fun _ _ _ h => h) (Or.inr ⟨by rfl, rfl⟩) (by with_reducible assumption) ?_
          try simp only [Act.put, List.setIfInBounds_toArray, List.set_cons_zero, List.set_cons_succ]
          refine wpAnyH_take (i := 14) (oi := ⟨some 68, _, _, _, _, some (7, false)⟩) rfl (by kernel_rfl) (by kernel_rfl) (by kernel_rfl) (fun _ _ _ h => h) (Or.inr ⟨by rfl, rfl⟩) (by with_reducible assumption) ?_
          try simp only [Act.put, List.setIfInBounds_toArray, List.set_cons_zero, List.set_cons_succ]
          refine wpAnyH_take (i := 15) (oi := ⟨some 69, _, _, _, _, none⟩) (v := ?v15_62) rfl (by kernel_rfl) (by kernel_rfl) (by kernel_rfl) (fun _ _ _ h => h) (Or.inl ⟨by rfl, ?hy15_62⟩) (by with_reducible assumption) ?rest15_62
          case hy15_62 => (intro V_ hSw; (try dsimp only at hSw); go_simp; (try with_reducible rfl))
          case' rest15_62 => skip
          try simp only [Act.put, List.setIfInBounds_toArray, List.set_cons_zero, List.set_cons_succ]
          refine wpAnyH_take (i := 16) (oi := ⟨some 70, _, _, _, _, none⟩) (v := ?v16_63) rfl (by kernel_rfl) (by kernel_rfl) (by kernel_rfl) (fun _ _ _ h => h) (Or.inl ⟨by rfl, ?hy16_63⟩) (by with_reducible assumption) ?rest16_63
          case hy16_63 => (intro V_ hSw; (try dsimp only at hSw); go_simp; (try with_reducible rfl))
          case' rest16_63 => skip
          try simp only [Act.put, List.setIfInBounds_toArray, List.set_cons_zero, List.set_cons_succ]
          refine wpAnyH_take (i := 17) (oi := ⟨some 71, _, _, _, _, some (16, true)⟩) (v := ?v17_64) rfl (by kernel_rfl) (by kernel_rfl) (by kernel_rfl) (fun _ _ _ h => h) (Or.inl ⟨by rfl, ?hy17_64⟩) (by with_reducible assumption) ?rest17_64
          case hy17_64 => (intro V_ hSw; (try dsimp only at hSw); go_simp; (try with_reducible rfl))
          case' rest17_64 => skip
          try simp only [Act.put, List.setIfInBounds_toArray, List.set_cons_zero, List.set_cons_succ]
          refine wpAnyH_take (i := 18) (oi := ⟨some 72, _, _, _, _, some (16, true)⟩) (v := ?v18_65) rfl (by kernel_rfl) (by kernel_rfl) (by kernel_rfl) (fun _ _ _ h => h) (Or.inl ⟨by rfl, ?hy18_65⟩) (by with_reducible assumption) ?rest18_65
          case hy18_65 => (intro V_ hSw; (try dsimp only at hSw); go_simp; (try with_reducible rfl))
          case' rest18_65 => skip
          try simp only [Act.put, List.setIfInBounds_toArray, List.set_cons_zero, List.set_cons_succ]
          refine wpAnyH_ready (rs := [19]) (by kernel_rfl) (by simp) ?_
          refine AllReadyH.cons (o := ⟨some 73, _, _, _, _, some (16, true)⟩) rfl (fun K hK => ?_) ?_
          · go_simp
            refine (td_low wn _ g t HT.out).mono ?_
            rintro e wb ⟨rfl, hb⟩
            have HF_ := Aside0.mk (td_kept HF.out hb)
            clear HF
            have HF := Aside0.mk HF_.out
            clear HF_
            have HT_ := Aside0.mk (HT.out.step hb)
            clear HT
            have HT := Aside0.mk HT_.out
            clear HT_
            have HM_ := Aside0.mk (td_kept HM.out hb)
            clear HM
            have HM := Aside0.mk HM_.out
            clear HM_
            clear hb
            refine hK.out _ _ ⟨(blk_cell (td_kept HF.out (Below.refl _ _)) 0).trans rfl, (blk_cell (td_kept HF.out (Below.refl _ _)) 1).trans rfl, (blk_cell (td_kept HM.out (Below.refl _ _)) 0).trans rfl, (blk_cell (td_kept HM.out (Below.refl _ _)) 1).trans rfl⟩ (fun hHeld => ?_)
            clear hK K
            try simp only [Act.put, List.setIfInBounds_toArray, List.set_cons_zero, List.set_cons_succ]
            refine wpAnyH_ready (rs := [20]) (by kernel_rfl) (by simp) ?_
            refine AllReadyH.cons (o := ⟨some 74, _, _, _, _, some (16, true)⟩) rfl (fun K hK => ?_) ?_
            · go_simp
              refine (td_notBelow m t.low _).mono ?_
              rintro e wc ⟨rfl, hb⟩
              have HF_ := Aside0.mk (td_kept HF.out hb)
              clear HF
              have HF := Aside0.mk HF_.out
              clear HF_
              have HT_ := Aside0.mk (HT.out.step hb)
              clear HT
              have HT := Aside0.mk HT_.out
              clear HT_
              have HM_ := Aside0.mk (td_kept HM.out hb)
              clear HM
              have HM := Aside0.mk HM_.out
              clear HM_
              clear hb
              rw [HNB2.out]
              have HBZ := Aside0.mk (below_step HW2.out HT.out.below)
              refine hK.out _ _ ⟨(blk_cell (td_kept HF.out (Below.refl _ _)) 0).trans rfl, (blk_cell (td_kept HF.out (Below.refl _ _)) 1).trans rfl, (blk_cell (td_kept HM.out (Below.refl _ _)) 0).trans rfl, (blk_cell (td_kept HM.out (Below.refl _ _)) 1).trans rfl⟩ (fun hHeld => ?_)
              clear hK K
              try simp only [Act.put, List.setIfInBounds_toArray, List.set_cons_zero, List.set_cons_succ]
              refine wpAnyH_take (i := 21) (oi := ⟨some 75, _, _, _, _, none⟩) (v := ?v21_66) rfl (by kernel_rfl) (by kernel_rfl) (by kernel_rfl) (fun _ _ _ h => h) (Or.inl ⟨by rfl, ?hy21_66⟩) (by with_reducible assumption) ?rest21_66
              case hy21_66 => (intro V_ hSw; (try dsimp only at hSw); go_simp; (try with_reducible rfl))
              case' rest21_66 => skip
              try simp only [Act.put, List.setIfInBounds_toArray, List.set_cons_zero, List.set_cons_succ]
              refine wpAnyH_take (i := 22) (oi := ⟨some 6, _, _, _, _, none⟩) (v := ?v22_67) rfl (by kernel_rfl) (by kernel_rfl) (by kernel_rfl) (fun _ _ _ h => h) (Or.inl ⟨by rfl, ?hy22_67⟩) (by with_reducible assumption) ?rest22_67
              case hy22_67 => (intro V_ hSw; (try dsimp only at hSw); go_simp; (try with_reducible rfl))
              case' rest22_67 => skip
              try simp only [Act.put, List.setIfInBounds_toArray, List.set_cons_zero, List.set_cons_succ]
              refine wpAnyH_done (by kernel_rfl) ?_ _
              refine NoPanic.normal ?_
              go_wp2_with fail
              go_ret
              exact ⟨rfl, HBZ.out⟩
            exact AllReadyH.nil
          exact AllReadyH.nil

        case pos =>
          rw [maxF_ok hq]
          clear hq
          obtain ⟨x, hm⟩ : ∃ x, Td.max (asks s o) t.low t.l = x := ⟨_, rfl⟩
          have HNB1 := Aside0.mk (show decide (tlt m x) = false from decide_eq_false (by rw [← hm]; exact Td.below_max HI.out.2.2 _))
          rw [hm]
          clear hm
          go_upto_region 13 with fail
          generalize hw8 : World.alloc w7 _ = w8
          have HF := Aside0.mk (show w8.heap[w7.heap.size]? = some (.cells #[.int .i64 x.1, .int .i64 x.2] 31 (0, 0)) from by rw [← hw8]; exact blk_new _ _)
          have hb : Below w7.heap.size w7 w8 := by rw [← hw8]; exact td_alloc _ _
          clear hw8
          have HM_ := Aside0.mk (td_kept HM.out hb)
          clear HM
          have HM := Aside0.mk HM_.out
          clear HM_
          have HT_ := Aside0.mk (HT.out.step hb)
          clear HT
          have HT := Aside0.mk HT_.out
          clear HT_
          clear hb
          generalize w7.heap.size = gf at HF ⊢
          refine wp_region_noPanic ?_
          refine wp_region_held_drew (S := (fun V => V.cell? ⟨gf, 0, none⟩ = some (.int .i64 x.1) ∧ V.cell? ⟨gf, 1, none⟩ = some (.int .i64 x.2) ∧ V.cell? ⟨gm, 0, none⟩ = some (.int .i64 m.1) ∧ V.cell? ⟨gm, 1, none⟩ = some (.int .i64 m.2))) (by kernel_rfl) ⟨(blk_cell (td_kept HF.out (below_drew1 (Below.refl _ _))) 0).trans rfl, (blk_cell (td_kept HF.out (below_drew1 (Below.refl _ _))) 1).trans rfl, (blk_cell (td_kept HM.out (below_drew1 (Below.refl _ _))) 0).trans rfl, (blk_cell (td_kept HM.out (below_drew1 (Below.refl _ _))) 1).trans rfl⟩ (fun hHeld => ?_)
          generalize hwd : World.drew _ = wd at hHeld ⊢
          have hb : Below w8.heap.size w8 wd := by rw [← hwd]; exact below_drew1 (Below.refl _ _)
          clear hwd
          have HF_ := Aside0.mk (td_kept HF.out hb)
          clear HF
          have HF := Aside0.mk HF_.out
          clear HF_
          have HT_ := Aside0.mk (HT.out.step hb)
          clear HT
          have HT := Aside0.mk HT_.out
          clear HT_
          have HM_ := Aside0.mk (td_kept HM.out hb)
          clear HM
          have HM := Aside0.mk HM_.out
          clear HM_
          clear hb
          refine wpAnyH_take (i := 0) (oi := ⟨some 54, _, _, _, _, none⟩) (v := ?v0_68) rfl (by kernel_rfl) (by kernel_rfl) (by kernel_rfl) (fun _ _ _ h => h) (Or.inl ⟨by rfl, ?hy0_68⟩) (by with_reducible assumption) ?rest0_68
          case hy0_68 => (intro V_ hSw; (try dsimp only at hSw); go_simp; (try with_reducible rfl))
          case' rest0_68 => skip
          try simp only [Act.put, List.setIfInBounds_toArray, List.set_cons_zero, List.set_cons_succ]
          refine wpAnyH_take (i := 1) (oi := ⟨some 55, _, _, _, _, none⟩) (v := ?v1_69) rfl (by kernel_rfl) (by kernel_rfl) (by kernel_rfl) (fun _ _ _ h => h) (Or.inl ⟨by rfl, ?hy1_69⟩) (by with_reducible assumption) ?rest1_69
          case hy1_69 => (intro V_ hSw; (try dsimp only at hSw); go_simp; (try with_reducible rfl))
          case' rest1_69 => skip
          try simp only [Act.put, List.setIfInBounds_toArray, List.set_cons_zero, List.set_cons_succ]
          refine wpAnyH_take (i := 2) (oi := ⟨some 56, _, _, _, _, none⟩) (v := ?v2_70) rfl (by kernel_rfl) (by kernel_rfl) (by kernel_rfl) (fun _ _ _ h => h) (Or.inl ⟨by rfl, ?hy2_70⟩) (by with_reducible assumption) ?rest2_70
          case hy2_70 => (intro V_ hSw; (try dsimp only at hSw); go_simp; (try with_reducible rfl))
          case' rest2_70 => skip
          try simp only [Act.put, List.setIfInBounds_toArray, List.set_cons_zero, List.set_cons_succ]
          refine wpAnyH_take (i := 3) (oi := ⟨some 57, _, _, _, _, some (2, true)⟩) rfl (by kernel_rfl) (by kernel_rfl) (by kernel_rfl) (fun _ _ _ h => h) (Or.inr ⟨by rfl, rfl⟩) (by with_reducible assumption) ?_
          try simp only [Act.put, List.setIfInBounds_toArray, List.set_cons_zero, List.set_cons_succ]
          refine wpAnyH_take (i := 4) (oi := ⟨some 58, _, _, _, _, some (2, true)⟩) rfl (by kernel_rfl) (by kernel_rfl) (by kernel_rfl) (fun _ _ _ h => h) (Or.inr ⟨by rfl, rfl⟩) (by with_reducible assumption) ?_
          try simp only [Act.put, List.setIfInBounds_toArray, List.set_cons_zero, List.set_cons_succ]
          refine wpAnyH_take (i := 5) (oi := ⟨some 59, _, _, _, _, some (2, true)⟩) rfl (by kernel_rfl) (by kernel_rfl) (by kernel_rfl) (fun _ _ _ h => h) (Or.inr ⟨by rfl, rfl⟩) (by with_reducible assumption) ?_
          try simp only [Act.put, List.setIfInBounds_toArray, List.set_cons_zero, List.set_cons_succ]
          refine wpAnyH_take (i := 6) (oi := ⟨some 60, _, _, _, _, none⟩) (v := ?v6_74) rfl (by kernel_rfl) (by kernel_rfl) (by kernel_rfl) (fun _ _ _ h => h) (Or.inl ⟨by rfl, ?hy6_74⟩) (by with_reducible assumption) ?rest6_74
          case hy6_74 => (intro V_ hSw; (try dsimp only at hSw); go_simp; (try with_reducible rfl))
          case' rest6_74 => skip
          try simp only [Act.put, List.setIfInBounds_toArray, List.set_cons_zero, List.set_cons_succ]
          refine wpAnyH_take (i := 7) (oi := ⟨some 61, _, _, _, _, none⟩) (v := ?v7_75) rfl (by kernel_rfl) (by kernel_rfl) (by kernel_rfl) (fun _ _ _ h => h) (Or.inl ⟨by rfl, ?hy7_75⟩) (by with_reducible assumption) ?rest7_75
          case hy7_75 => (intro V_ hSw; (try dsimp only at hSw); go_simp; (try with_reducible rfl))
          case' rest7_75 => skip
          try simp only [Act.put, List.setIfInBounds_toArray, List.set_cons_zero, List.set_cons_succ]
          refine wpAnyH_take (i := 8) (oi := ⟨some 62, _, _, _, _, some (7, false)⟩) (v := ?v8_76) rfl (by kernel_rfl) (by kernel_rfl) (by kernel_rfl) (fun _ _ _ h => h) (Or.inl ⟨by rfl, ?hy8_76⟩) (by with_reducible assumption) ?rest8_76
          case hy8_76 => (intro V_ hSw; (try dsimp only at hSw); go_simp; (try with_reducible rfl))
          case' rest8_76 => skip
          try simp only [Act.put, List.setIfInBounds_toArray, List.set_cons_zero, List.set_cons_succ]
          refine wpAnyH_take (i := 9) (oi := ⟨some 63, _, _, _, _, some (7, false)⟩) (v := ?v9_77) rfl (by kernel_rfl) (by kernel_rfl) (by kernel_rfl) (fun _ _ _ h => h) (Or.inl ⟨by rfl, ?hy9_77⟩) (by with_reducible assumption) ?rest9_77
          case hy9_77 => (intro V_ hSw; (try dsimp only at hSw); go_simp; (try with_reducible rfl))
          case' rest9_77 => skip
          try simp only [Act.put, List.setIfInBounds_toArray, List.set_cons_zero, List.set_cons_succ]
          refine wpAnyH_take (i := 10) (oi := ⟨some 64, _, _, _, _, some (7, false)⟩) (v := ?v10_78) rfl (by kernel_rfl) (by kernel_rfl) (by kernel_rfl) (fun _ _ _ h => h) (Or.inl ⟨by rfl, ?hy10_78⟩) (by with_reducible assumption) ?rest10_78
          case hy10_78 => (intro V_ hSw; (try dsimp only at hSw); go_simp; (try with_reducible rfl))
          case' rest10_78 => skip
          try simp only [Act.put, List.setIfInBounds_toArray, List.set_cons_zero, List.set_cons_succ]
          refine wpAnyH_take (i := 11) (oi := ⟨some 65, _, _, _, _, some (10, true)⟩) (v := ?v11_79) rfl (by kernel_rfl) (by kernel_rfl) (by kernel_rfl) (fun _ _ _ h => h) (Or.inl ⟨by rfl, ?hy11_79⟩) (by with_reducible assumption) ?rest11_79
          case hy11_79 => (intro V_ hSw; (try dsimp only at hSw); go_simp; (try with_reducible rfl))
          case' rest11_79 => skip
          try simp only [Act.put, List.setIfInBounds_toArray, List.set_cons_zero, List.set_cons_succ]
          refine wpAnyH_take (i := 12) (oi := ⟨some 66, _, _, _, _, some (10, true)⟩) (v := ?v12_80) rfl (by kernel_rfl) (by kernel_rfl) (by kernel_rfl) (fun _ _ _ h => h) (Or.inl ⟨by rfl, ?hy12_80⟩) (by with_reducible assumption) ?rest12_80
          case hy12_80 => (intro V_ hSw; (try dsimp only at hSw); go_simp; (try with_reducible rfl))
          case' rest12_80 => skip
          try simp only [Act.put, List.setIfInBounds_toArray, List.set_cons_zero, List.set_cons_succ]
          refine wpAnyH_ready (rs := [13]) (by kernel_rfl) (by simp) ?_
          refine AllReadyH.cons (o := ⟨some 67, _, _, _, _, some (10, true)⟩) rfl (fun K hK => ?_) ?_
          · go_simp
            refine (td_notBelow m x _).mono ?_
            rintro e wa ⟨rfl, hb⟩
            have HF_ := Aside0.mk (td_kept HF.out hb)
            clear HF
            have HF := Aside0.mk HF_.out
            clear HF_
            have HT_ := Aside0.mk (HT.out.step hb)
            clear HT
            have HT := Aside0.mk HT_.out
            clear HT_
            have HM_ := Aside0.mk (td_kept HM.out hb)
            clear HM
            have HM := Aside0.mk HM_.out
            clear HM_
            clear hb
            rw [HNB1.out]
            refine hK.out _ _ ⟨(blk_cell (td_kept HF.out (Below.refl _ _)) 0).trans rfl, (blk_cell (td_kept HF.out (Below.refl _ _)) 1).trans rfl, (blk_cell (td_kept HM.out (Below.refl _ _)) 0).trans rfl, (blk_cell (td_kept HM.out (Below.refl _ _)) 1).trans rfl⟩ (fun hHeld => ?_)
            clear hK K
            try simp only [Act.put, List.setIfInBounds_toArray, List.set_cons_zero, List.set_cons_succ]
            refine wpAnyH_take (i := 14) (oi := ⟨some 68, _, _, _, _, some (7, false)⟩) (v := ?v14_81) rfl (by kernel_rfl) (by kernel_rfl) (by kernel_rfl) (fun _ _ _ h => h) (Or.inl ⟨by rfl, ?hy14_81⟩) (by with_reducible assumption) ?rest14_81
            case hy14_81 => (intro V_ hSw; (try dsimp only at hSw); go_simp; (try with_reducible rfl))
            case' rest14_81 => skip
            try simp only [Act.put, List.setIfInBounds_toArray, List.set_cons_zero, List.set_cons_succ]
            refine wpAnyH_take (i := 15) (oi := ⟨some 69, _, _, _, _, none⟩) (v := ?v15_82) rfl (by kernel_rfl) (by kernel_rfl) (by kernel_rfl) (fun _ _ _ h => h) (Or.inl ⟨by rfl, ?hy15_82⟩) (by with_reducible assumption) ?rest15_82
            case hy15_82 => (intro V_ hSw; (try dsimp only at hSw); go_simp; (try with_reducible rfl))
            case' rest15_82 => skip
            try simp only [Act.put, List.setIfInBounds_toArray, List.set_cons_zero, List.set_cons_succ]
            refine wpAnyH_take (i := 16) (oi := ⟨some 70, _, _, _, _, none⟩) (v := ?v16_83) rfl (by kernel_rfl) (by kernel_rfl) (by kernel_rfl) (fun _ _ _ h => h) (Or.inl ⟨by rfl, ?hy16_83⟩) (by with_reducible assumption) ?rest16_83
            case hy16_83 => (intro V_ hSw; (try dsimp only at hSw); go_simp; (try with_reducible rfl))
            case' rest16_83 => skip
            try simp only [Act.put, List.setIfInBounds_toArray, List.set_cons_zero, List.set_cons_succ]
            refine wpAnyH_take (i := 17) (oi := ⟨some 71, _, _, _, _, some (16, true)⟩) (v := ?v17_84) rfl (by kernel_rfl) (by kernel_rfl) (by kernel_rfl) (fun _ _ _ h => h) (Or.inl ⟨by rfl, ?hy17_84⟩) (by with_reducible assumption) ?rest17_84
            case hy17_84 => (intro V_ hSw; (try dsimp only at hSw); go_simp; (try with_reducible rfl))
            case' rest17_84 => skip
            try simp only [Act.put, List.setIfInBounds_toArray, List.set_cons_zero, List.set_cons_succ]
            refine wpAnyH_take (i := 18) (oi := ⟨some 72, _, _, _, _, some (16, true)⟩) (v := ?v18_85) rfl (by kernel_rfl) (by kernel_rfl) (by kernel_rfl) (fun _ _ _ h => h) (Or.inl ⟨by rfl, ?hy18_85⟩) (by with_reducible assumption) ?rest18_85
            case hy18_85 => (intro V_ hSw; (try dsimp only at hSw); go_simp; (try with_reducible rfl))
            case' rest18_85 => skip
            try simp only [Act.put, List.setIfInBounds_toArray, List.set_cons_zero, List.set_cons_succ]
            refine wpAnyH_ready (rs := [19]) (by kernel_rfl) (by simp) ?_
            refine AllReadyH.cons (o := ⟨some 73, _, _, _, _, some (16, true)⟩) rfl (fun K hK => ?_) ?_
            · go_simp
              refine (td_low wn _ g t HT.out).mono ?_
              rintro e wb ⟨rfl, hb⟩
              have HF_ := Aside0.mk (td_kept HF.out hb)
              clear HF
              have HF := Aside0.mk HF_.out
              clear HF_
              have HT_ := Aside0.mk (HT.out.step hb)
              clear HT
              have HT := Aside0.mk HT_.out
              clear HT_
              have HM_ := Aside0.mk (td_kept HM.out hb)
              clear HM
              have HM := Aside0.mk HM_.out
              clear HM_
              clear hb
              refine hK.out _ _ ⟨(blk_cell (td_kept HF.out (Below.refl _ _)) 0).trans rfl, (blk_cell (td_kept HF.out (Below.refl _ _)) 1).trans rfl, (blk_cell (td_kept HM.out (Below.refl _ _)) 0).trans rfl, (blk_cell (td_kept HM.out (Below.refl _ _)) 1).trans rfl⟩ (fun hHeld => ?_)
              clear hK K
              try simp only [Act.put, List.setIfInBounds_toArray, List.set_cons_zero, List.set_cons_succ]
              refine wpAnyH_ready (rs := [20]) (by kernel_rfl) (by simp) ?_
              refine AllReadyH.cons (o := ⟨some 74, _, _, _, _, some (16, true)⟩) rfl (fun K hK => ?_) ?_
              · go_simp
                refine (td_notBelow m t.low _).mono ?_
                rintro e wc ⟨rfl, hb⟩
                have HF_ := Aside0.mk (td_kept HF.out hb)
                clear HF
                have HF := Aside0.mk HF_.out
                clear HF_
                have HT_ := Aside0.mk (HT.out.step hb)
                clear HT
                have HT := Aside0.mk HT_.out
                clear HT_
                have HM_ := Aside0.mk (td_kept HM.out hb)
                clear HM
                have HM := Aside0.mk HM_.out
                clear HM_
                clear hb
                rw [HNB2.out]
                have HBZ := Aside0.mk (below_step HW2.out HT.out.below)
                refine hK.out _ _ ⟨(blk_cell (td_kept HF.out (Below.refl _ _)) 0).trans rfl, (blk_cell (td_kept HF.out (Below.refl _ _)) 1).trans rfl, (blk_cell (td_kept HM.out (Below.refl _ _)) 0).trans rfl, (blk_cell (td_kept HM.out (Below.refl _ _)) 1).trans rfl⟩ (fun hHeld => ?_)
                clear hK K
                try simp only [Act.put, List.setIfInBounds_toArray, List.set_cons_zero, List.set_cons_succ]
                refine wpAnyH_take (i := 21) (oi := ⟨some 75, _, _, _, _, none⟩) (v := ?v21_86) rfl (by kernel_rfl) (by kernel_rfl) (by kernel_rfl) (fun _ _ _ h => h) (Or.inl ⟨by rfl, ?hy21_86⟩) (by with_reducible assumption) ?rest21_86
                case hy21_86 => (intro V_ hSw; (try dsimp only at hSw); go_simp; (try with_reducible rfl))
                case' rest21_86 => skip
                try simp only [Act.put, List.setIfInBounds_toArray, List.set_cons_zero, List.set_cons_succ]
                refine wpAnyH_take (i := 22) (oi := ⟨some 6, _, _, _, _, none⟩) (v := ?v22_87) rfl (by kernel_rfl) (by kernel_rfl) (by kernel_rfl) (fun _ _ _ h => h) (Or.inl ⟨by rfl, ?hy22_87⟩) (by with_reducible assumption) ?rest22_87
                case hy22_87 => (intro V_ hSw; (try dsimp only at hSw); go_simp; (try with_reducible rfl))
                case' rest22_87 => skip
                try simp only [Act.put, List.setIfInBounds_toArray, List.set_cons_zero, List.set_cons_succ]
                refine wpAnyH_done (by kernel_rfl) ?_ _
                refine NoPanic.normal ?_
                go_wp2_with fail
                go_ret
                exact ⟨rfl, HBZ.out⟩
              exact AllReadyH.nil
            exact AllReadyH.nil
          exact AllReadyH.nil
end Go.Proofs.Ytaccfbpfennjkaa.PTideDoes

